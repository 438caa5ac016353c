/-
  Parts of the proof, put together by program.
-/
import Derived.Test.YtifonhplnmpgaaaGreatPRacesOn1
set_option linter.unusedVariables false
set_option linter.unusedSimpArgs false
set_option linter.unusedSectionVars false
namespace Go.Sh
open Go.RowKit (Below)
open Rep (rep)
def OAt {α:Type} [Rep α] (G:List Nat) (w:World) (b o:Nat) (x:α):Prop:=
 ∃ cs,rep G w cs x∧w.rangeAt b o cs∧G.Nodup∧Wr G w∧b∉G∧∃ c e,w.heap[b]?=some (.cells c e (0,0))
structure ChgAt (b o n:Nat) (G:List Nat) (w w':World):Prop where
 chg:Chg (b :: G) w w'
 cell:∀ c e,w.heap[b]?=some (.cells c e (0,0))→∃ c',w'.heap[b]?=some (.cells c' e (0,0))∧∀ j,(j<o∨o+n≤j)→c'[j]?=c[j]?
theorem ChgAt.mono {b o n o' n':Nat} {G G':List Nat} {w w':World} (h:ChgAt b o n G w w') (ho:o'≤o) (hn:o+n≤o'+n') (hG:∀ c∈G,c∈G'):ChgAt b o' n' G' w w':=
 ⟨h.chg.mono fun x hx=>by
   rcases List.mem_cons.1 hx with rfl | hx
   · simp
   · exact List.mem_cons_of_mem _ (hG x hx),fun c e hc=>by
   obtain ⟨c',h1,h2⟩:=h.cell c e hc
   exact ⟨c',h1,fun j hj=>h2 j (by omega)⟩⟩
section
variable {P:Program} {w w0:World} {α β:Type} [Rep α] [Rep β]
theorem ChgAt.range {b o n o':Nat} {G:List Nat} {w':World} {cs:List Value} (h:ChgAt b o n G w w') (hw:∃ c e,w.heap[b]?=some (.cells c e (0,0))) (hr:w.rangeAt b o' cs) (hd:o'+cs.length≤o∨o+n≤o'):w'.rangeAt b o' cs:=by
 obtain ⟨c,e,hc⟩:=hw
 obtain ⟨c',h1,h2⟩:=h.cell c e hc
 intro j v hv
 have hj:j<cs.length:=(List.getElem?_eq_some_iff.1 hv).1
 have:=hr j v hv
 simp only [World.cell?,hc,h1] at this ⊢
 simp only [Option.isSome_none,Bool.false_eq_true,if_false] at this ⊢
 rw [h2 (o'+j) (by omega)];exact this
theorem OAt.at {G:List Nat} {b o:Nat} {x:α} (h:OAt G w b o x):At w b o x:=by
 obtain ⟨cs,hr,ha,_⟩:=h;exact ⟨G,cs,hr,ha⟩
theorem OAt.lt {G:List Nat} {b o:Nat} {x:α} (h:OAt G w b o x):b<w.heap.size:=by
 obtain ⟨cs,_,_,_,_,_,c,e,hc⟩:=h;exact (Array.getElem?_eq_some_iff.1 hc).1
structure Lens (H:List Nat→World→α→Prop) (S:List Nat) (w:World) (b o:Nat) (G:List Nat) (y:β) (upd:β→α):Prop where
 here:OAt G w b o y
 sub:∀ c∈b :: G,c∈S
 back:∀ w' G' y',ChgAt b o (Rep.size β) G w w'→OAt G' w' b o y'→(∀ c∈G',c∈G∨c∉S)→∃ F',H F' w' (upd y')∧∀ c∈F',c∈S∨c∈G'
abbrev MH (v:Value):List Nat→World→α→Prop:=fun F w x=>Mine F w v x
abbrev VH (g:Nat):List Nat→World→α→Prop:=fun F w x=>OAt F w g 0 x
theorem Lens.var {F:List Nat} {g:Nat} {x:α} (h:OAt F w g 0 x):Lens (VH g) (g :: F) w g 0 F x (fun y=>y):=
 ⟨h,fun _ h=>h,fun w' G' y' _ hO _=>⟨G',hO,fun c hc=>.inr hc⟩⟩
theorem zmX {F1 F2 G G':List Nat} {b:Nat} (h:(b :: (F1++(G++F2))).Nodup) (hG:G'.Nodup) (hs:∀ c∈G',c∈G∨c∉b :: (F1++(G++F2))):(b :: (F1++(G'++F2))).Nodup:=by
 rw [List.nodup_cons] at h ⊢
 obtain ⟨hb,h⟩:=h
 rw [List.nodup_append] at h ⊢
 obtain ⟨h1,h2,h3⟩:=h
 rw [List.nodup_append] at h2 ⊢
 obtain ⟨h4,h5,h6⟩:=h2
 refine ⟨fun hm=>?_,h1,⟨hG,h5,fun a ha c hc e=>?_⟩,fun a ha c hc e=>?_⟩
 · rcases List.mem_append.1 hm with hm | hm
   · exact hb (by simp [hm])
   rcases List.mem_append.1 hm with hm | hm
   · rcases hs _ hm with h' | h'
     · exact hb (by simp [h'])
     exact h' (by simp)
   exact hb (by simp [hm])
 · subst e
   rcases hs _ ha with h' | h'
   · exact h6 a h' a hc rfl
   exact h' (by simp [hc])
 subst e
 rcases List.mem_append.1 hc with hc | hc
 · rcases hs _ hc with h' | h'
   · exact h3 a ha a (by simp [h']) rfl
   exact h' (by simp [ha])
 exact h3 a ha a (by simp [hc]) rfl
theorem zqT {F:List Nat} {v:Value} {l:List α} {k:Nat} (hm:Mine F w v l) (hk:k<l.length) :
   ∃ b a cap G,v=.slice (some ⟨b,a,none⟩) l.length cap∧Lens (MH v) F w b (a+k*Rep.size α) G l[k] (fun y=>l.set k y):=by
 obtain ⟨⟨cs,⟨a,cap,Fi,xs,rfl,h1,h2,hc,h4⟩,rfl⟩,hn,hw⟩:=hm
 rcases h4 with ⟨rfl,_⟩ | ⟨b,o,rfl,rfl,hra,hb⟩
 · simp at hk
 have e:l=l.take k++(l[k] :: l.drop (k+1)):=by simp
 have hc':=hc
 rw [e] at hc'
 obtain ⟨F1,F2',x1,x2',hFi,hxs,c1,c2'⟩:=Cells.split hc'
 obtain ⟨G,F2,cg,x2,rfl,rfl,hg,c2⟩:=c2'
 subst hFi hxs
 have hl1:x1.length=k*Rep.size α:=by rw [Cells.len c1,List.length_take];congr 1;omega
 have hlg:=Rep.len hg
 have hn':=hn
 rw [List.nodup_cons] at hn
 obtain ⟨hbn,hn⟩:=hn
 rw [List.nodup_append] at hn
 obtain ⟨hn1,hn2,hn3⟩:=hn
 rw [List.nodup_append] at hn2
 obtain ⟨hnG,hnF2,hn4⟩:=hn2
 obtain ⟨r1,r2⟩:=zaN hra
 obtain ⟨rg,r3⟩:=zaN r2
 rw [hl1] at rg r3
 have hwb:∃ c e,w.heap[b]?=some (.cells c e (0,0)):=hw b (by simp)
 refine ⟨b,o,cap,G,rfl,⟨cg,hg,rg,hnG,hw.sub (by simp +contextual),fun h=>hbn (by simp [h]),hwb⟩,by simp +contextual,fun w' G' y' hch hO hs=>?_⟩
 obtain ⟨cg',hg',rg',hnG',hwG',hbG',hwb'⟩:=hO
 have hlg':=Rep.len hg'
 have keep1:∀ c∈F1,w'.heap[c]?=w.heap[c]?:=fun c hc1=>by
   refine hch.chg.block c (Cells.lt c1 c hc1) fun hm=>?_
   rcases List.mem_cons.1 hm with rfl | hm
   · exact hbn (by simp [hc1])
   exact hn3 c hc1 c (by simp [hm]) rfl
 have keep2:∀ c∈F2,w'.heap[c]?=w.heap[c]?:=fun c hc1=>by
   refine hch.chg.block c (Cells.lt c2 c hc1) fun hm=>?_
   rcases List.mem_cons.1 hm with rfl | hm
   · exact hbn (by simp [hc1])
   exact hn4 c hm c hc1 rfl
 refine ⟨b :: (F1++(G'++F2)),⟨⟨_,⟨some ⟨b,o,none⟩,cap,F1++(G'++F2),x1++(cg'++x2),by simp,by simpa using h1,h2,?_,.inr ⟨b,o,rfl,rfl,?_,?_⟩⟩,rfl⟩,zmX hn' hnG' hs,?_⟩,?_⟩
 · have:l.set k y'=l.take k++(y' :: l.drop (k+1)):=by rw [List.set_eq_take_append_cons_drop];simp [hk]
   rw [this]
   exact Cells.append (Cells.keep c1 keep1) ⟨G',F2,cg',x2,rfl,rfl,hg',Cells.keep c2 keep2⟩
 · refine zdp (hch.range hwb r1 (.inl (by omega))) (zdp (by rw [hl1];exact rg') ?_)
   have e3:o+x1.length+cg'.length=o+k*Rep.size α+cg.length:=by omega
   rw [e3]
   exact hch.range hwb r3 (.inr (by omega))
 · obtain ⟨c,e,h⟩:=hwb';exact (Array.getElem?_eq_some_iff.1 h).1
 · intro c hcm
   rcases List.mem_cons.1 hcm with rfl | hcm
   · exact hwb'
   rcases List.mem_append.1 hcm with hcm | hcm
   · exact (hw.sub (G:=F1) (by simp +contextual)).keep keep1 c hcm
   rcases List.mem_append.1 hcm with hcm | hcm
   · exact hwG' c hcm
   exact (hw.sub (G:=F2) (by simp +contextual)).keep keep2 c hcm
 intro c hcm
 rcases List.mem_cons.1 hcm with rfl | hcm
 · exact .inl (by simp)
 rcases List.mem_append.1 hcm with hcm | hcm
 · exact .inl (by simp [hcm])
 rcases List.mem_append.1 hcm with hcm | hcm
 · exact .inr hcm
 exact .inl (by simp [hcm])
section pair
variable {γ:Type}
theorem Lens.fst {H:List Nat→World→γ→Prop} {F:List Nat} {b o:Nat} {G:List Nat} {p:α×β} {upd:α×β→γ} (h:Lens H F w b o G p upd) :
   ∃ G1,Lens H F w b o G1 p.1 (fun y=>upd (y,p.2)):=by
 obtain ⟨⟨cs,⟨G1,G2,c1,c2,rfl,rfl,h1,h2⟩,hr,hn,hw,hb,hwb⟩,hsub,hback⟩:=h
 obtain ⟨r1,r2⟩:=zaN hr
 have hl1:=Rep.len h1
 have hl2:=Rep.len h2
 have hn':=hn
 rw [List.nodup_append] at hn
 obtain ⟨hn1,hn2,hn3⟩:=hn
 simp only [List.mem_append,not_or] at hb
 refine ⟨G1,⟨c1,h1,r1,hn1,hw.sub (by simp +contextual),hb.1,hwb⟩,fun c hc=>hsub c (by rcases List.mem_cons.1 hc with rfl | hc<;>simp_all),fun w' G' y' hch hO hs=>?_⟩
 obtain ⟨c1',h1',r1',hn1',hw1',hb1',hwb'⟩:=hO
 have keep2:∀ c∈G2,w'.heap[c]?=w.heap[c]?:=fun c hc=>by
   refine hch.chg.block c (Rep.lt h2 c hc) fun hm=>?_
   rcases List.mem_cons.1 hm with rfl | hm
   · exact hb.2 hc
   exact hn3 c hm c hc rfl
 have hs':∀ c∈G'++G2,c∈G1++G2∨c∉F:=fun c hc=>by
   rcases List.mem_append.1 hc with hc | hc
   · rcases hs c hc with h | h
     · exact .inl (by simp [h])
     exact .inr h
   exact .inl (by simp [hc])
 have hnG:(G'++G2).Nodup:=by
   rw [List.nodup_append]
   refine ⟨hn1',hn2,fun a ha c hc e=>?_⟩
   subst e
   rcases hs a ha with h | h
   · exact hn3 a h a hc rfl
   exact h (hsub a (by simp [hc]))
 obtain ⟨F',hM,hF'⟩:=hback w' (G'++G2) (y',p.2) (hch.mono (Nat.le_refl _) (by simp only [Rep.size];omega) (by simp +contextual))
   ⟨c1'++c2,⟨G',G2,c1',c2,rfl,rfl,h1',Rep.keep h2 keep2⟩,zdp r1' (by
     rw [Rep.len h1',←hl1];exact hch.range hwb r2 (.inr (by rw [hl1];exact Nat.le_refl _))),hnG,hw1'.append ((hw.sub (by simp +contextual)).keep keep2),by simp [hb1',hb.2],hwb'⟩ hs'
 refine ⟨F',hM,fun c hc=>?_⟩
 rcases hF' c hc with h | h
 · exact .inl h
 rcases List.mem_append.1 h with h | h
 · exact .inr h
 exact .inl (hsub c (by simp [h]))
theorem Lens.snd {H:List Nat→World→γ→Prop} {F:List Nat} {b o:Nat} {G:List Nat} {p:α×β} {upd:α×β→γ} (h:Lens H F w b o G p upd) :
   ∃ G1,Lens H F w b (o+Rep.size α) G1 p.2 (fun y=>upd (p.1,y)):=by
 obtain ⟨⟨cs,⟨G1,G2,c1,c2,rfl,rfl,h1,h2⟩,hr,hn,hw,hb,hwb⟩,hsub,hback⟩:=h
 obtain ⟨r1,r2⟩:=zaN hr
 have hl1:=Rep.len h1
 have hl2:=Rep.len h2
 have hn':=hn
 rw [List.nodup_append] at hn
 obtain ⟨hn1,hn2,hn3⟩:=hn
 simp only [List.mem_append,not_or] at hb
 rw [hl1] at r2
 refine ⟨G2,⟨c2,h2,r2,hn2,hw.sub (by simp +contextual),hb.2,hwb⟩,fun c hc=>hsub c (by rcases List.mem_cons.1 hc with rfl | hc<;>simp_all),fun w' G' y' hch hO hs=>?_⟩
 obtain ⟨c2',h2',r2',hn2',hw2',hb2',hwb'⟩:=hO
 have keep1:∀ c∈G1,w'.heap[c]?=w.heap[c]?:=fun c hc=>by
   refine hch.chg.block c (Rep.lt h1 c hc) fun hm=>?_
   rcases List.mem_cons.1 hm with rfl | hm
   · exact hb.1 hc
   exact hn3 c hc c hm rfl
 have hs':∀ c∈G1++G',c∈G1++G2∨c∉F:=fun c hc=>by
   rcases List.mem_append.1 hc with hc | hc
   · exact .inl (by simp [hc])
   rcases hs c hc with h | h
   · exact .inl (by simp [h])
   exact .inr h
 have hnG:(G1++G').Nodup:=by
   rw [List.nodup_append]
   refine ⟨hn1,hn2',fun a ha c hc e=>?_⟩
   subst e
   rcases hs a hc with h | h
   · exact hn3 a ha a h rfl
   exact h (hsub a (by simp [ha]))
 obtain ⟨F',hM,hF'⟩:=hback w' (G1++G') (p.1,y') (hch.mono (by omega) (by simp only [Rep.size];omega) (by simp +contextual))
   ⟨c1++c2',⟨G1,G',c1,c2',rfl,rfl,Rep.keep h1 keep1,h2'⟩,zdp (hch.range hwb r1 (.inl (by rw [hl1];exact Nat.le_refl _))) (by rw [hl1];exact r2'),hnG,((hw.sub (by simp +contextual)).keep keep1).append hw2',by simp [hb.1,hb2'],hwb'⟩ hs'
 refine ⟨F',hM,fun c hc=>?_⟩
 rcases hF' c hc with h | h
 · exact .inl h
 rcases List.mem_append.1 h with h | h
 · exact .inl (hsub c (by simp [h]))
 exact .inr h
theorem Lens.row {H:List Nat→World→γ→Prop} {F:List Nat} {b o:Nat} {G:List Nat} {l:List β} {upd:List β→γ} (h:Lens H F w b o G l upd) :
   ∃ u,Mine G w u l∧w.rangeAt b o [u]∧(∀ c∈G,c∈F) ∧
     ∀ w' G' l',Chg G w w'→Mine G' w' u l'→(∀ c∈G',c∈G∨c∉F)→∃ F',H F' w' (upd l')∧∀ c∈F',c∈F∨c∈G':=by
 obtain ⟨⟨cs,hrep,hr,hn,hw,hb,hwb⟩,hsub,hback⟩:=h
 have hcs:∃ u,cs=[u]:=by obtain ⟨a,cap,Fi,xs,rfl,_⟩:=hrep;exact ⟨_,rfl⟩
 obtain ⟨u,rfl⟩:=hcs
 refine ⟨u,⟨⟨_,hrep,rfl⟩,hn,hw⟩,hr,fun c hc=>hsub c (by simp [hc]),fun w' G' l' hch hM hs=>?_⟩
 have hbl:b<w.heap.size:=by obtain ⟨c,e,h⟩:=hwb;exact (Array.getElem?_eq_some_iff.1 h).1
 have hbk:w'.heap[b]?=w.heap[b]?:=hch.block b hbl hb
 obtain ⟨⟨cs',hrep',hv'⟩,hn',hw'⟩:=hM
 have hcs':cs'=[u]:=by
   obtain ⟨a,cap,Fi,xs,rfl,_⟩:=hrep'
   simp only [mkv,Rep.agg,cond_false,List.headD_cons] at hv'
   rw [hv']
 subst hcs'
 have hbG':b∉G':=fun hm=>by
   rcases hs b hm with h | h
   · exact hb h
   exact h (hsub b (by simp))
 exact hback w' G' l' ⟨hch.mono (by simp +contextual),fun c e hc=>⟨c,by rw [hbk];exact hc,fun _ _=>rfl⟩⟩
   ⟨_,hrep',zcd hr hbk,hn',hw',hbG',by obtain ⟨c,e,h⟩:=hwb;exact ⟨c,e,by rw [hbk];exact h⟩⟩ hs
end pair
theorem zmY {t by_ b o:Nat} {G:List Nat} {y y':β} {u:Value} {G':List Nat} {K:World→Prop} (ht:tyI P t=some (Rep.size β,by_,Rep.agg β)) (h:OAt G w b o y)
   (hu:OwnF G' w u y') (hn:G'.Nodup) (hwr:Wr G' w) (hb:b∉G') (k:∀ w',ChgAt b o (Rep.size β) [] w w'→OAt G' w' b o y'→K w'):OPU P (Instr.storeAt t (.pointer (some ⟨b,o,none⟩)) u) w K:=by
 obtain ⟨us,hr,rfl⟩:=hu
 obtain ⟨cs,hr0,ha,hn0,hw0,hb0,c,e,hc⟩:=h
 have hl0:=Rep.len hr0
 have hlu:=Rep.len hr
 have hpos:=Rep.pos (α:=β)
 have hcell:∀ j,j<cs.length→c[o+j]?=cs[j]?:=by
   intro j hj
   have:=ha j cs[j] (by simp [hj])
   simpa [World.cell?,hc,hj] using this
 have hfit:o+Rep.size β≤c.size:=by
   have hj:cs.length-1<cs.length:=by omega
   have:=hcell (cs.length-1) hj
   rw [List.getElem?_eq_getElem hj] at this
   have:=(Array.getElem?_eq_some_iff.1 this).1
   omega
 have hst:=zcF (P:=P) (e:=e) (cur:=c) ht hr hc hfit
 have hset:=setRow_heap w b c ((c.toList.take o++us++c.toList.drop (o+us.length)).toArray) e _ hc
 refine ⟨_,hst,k _ ⟨(zcp w b _).mono (by simp),fun c1 e1 hc1=>?_⟩ ?_⟩
 · rw [hc] at hc1
   simp only [Option.some.injEq,Obj.cells.injEq,and_true] at hc1
   obtain ⟨rfl,rfl⟩:=hc1
   refine ⟨_,hset,fun j hj=>?_⟩
   simp only [List.getElem?_toArray]
   rcases hj with hj | hj
   · rw [List.append_assoc,List.getElem?_append_left (by simp only [List.length_take,Array.length_toList];omega),List.getElem?_take,if_pos hj,Array.getElem?_toList]
   rw [List.getElem?_append_right (by simp only [List.length_append,List.length_take,Array.length_toList];omega),List.getElem?_drop,Array.getElem?_toList]
   congr 1
   simp only [List.length_append,List.length_take,Array.length_toList];omega
 have hkeep:∀ x∈G',(w.setRow b ((c.toList.take o++us++c.toList.drop (o+us.length)).toArray)).heap[x]?=w.heap[x]?:=fun x hx=>
   (zcp w b _).block x (hwr.lt x hx) (by simp;exact fun e=>hb (e▸hx))
 refine ⟨us,Rep.keep hr hkeep,fun j v hv=>?_,hn,hwr.keep hkeep,hb,_,e,hset⟩
 have hj:j<us.length:=(List.getElem?_eq_some_iff.1 hv).1
 simp only [World.cell?,hset]
 simp only [Option.isSome_none,Bool.false_eq_true,if_false,List.getElem?_toArray]
 rw [List.append_assoc,List.getElem?_append_right (by simp only [List.length_take,Array.length_toList];omega),List.getElem?_append_left (by simp only [List.length_take,Array.length_toList];omega),←hv]
 congr 1
 simp only [List.length_take,Array.length_toList];omega
theorem zoB {t by_ b o:Nat} {H:List Nat→World→α→Prop} {F G:List Nat} {y y':β} {upd:β→α} {u:Value} {G':List Nat} {K:World→Prop} (ht:tyI P t=some (Rep.size β,by_,Rep.agg β)) (h:Lens H F w b o G y upd)
   (hu:Mine G' w u y') (hs:∀ c∈G',c∈G∨c∉F) (k:∀ w',Chg F w w'→(∃ F',H F' w' (upd y')∧∀ c∈F',c∈F∨c∈G')→K w'):OPU P (Instr.storeAt t (.pointer (some ⟨b,o,none⟩)) u) w K:=by
 have hbG':b∉G':=fun hm=>by
   rcases hs b hm with h' | h'
   · obtain ⟨cs,_,_,_,_,hb,_⟩:=h.here;exact hb h'
   exact h' (h.sub b (by simp))
 refine zmY ht h.here hu.own hu.nodup hu.wr hbG' fun w' hch hO=>k w' (hch.chg.mono fun c hc=>h.sub c (by simp at hc;simp [hc])) ?_
 obtain ⟨F',h1,h2⟩:=h.back w' G' y' (hch.mono (Nat.le_refl _) (Nat.le_refl _) (by simp)) hO hs
 exact ⟨F',h1,h2⟩
end
class RepZ (α:Type) [Rep α] where
 zv:α
 zc:List Value
 zr:∀ w,rep [] w zc zv
instance:RepZ Int:=⟨0,[.int .i64 0],fun _=>⟨rfl,rfl,by unfold I64;omega⟩⟩
instance:RepZ Bool:=⟨false,[.bool false],fun _=>⟨rfl,rfl⟩⟩
instance:RepZ ByteArray:=⟨ByteArray.empty,[.string ByteArray.empty],fun _=>⟨rfl,rfl,Nat.zero_le _⟩⟩
instance {α:Type} [Rep α]:RepZ (List α):=⟨[],[.slice none 0 0],fun _=>⟨none,0,[],[],rfl,Nat.le_refl _,Nat.zero_le _,⟨rfl,rfl⟩,.inl ⟨rfl,rfl⟩⟩⟩
instance {α β:Type} [Rep α] [Rep β] [RepZ α] [RepZ β]:RepZ (α×β):=⟨((RepZ.zv:α),(RepZ.zv:β)),RepZ.zc α++RepZ.zc β,fun w=>⟨[],[],_,_,rfl,rfl,RepZ.zr w,RepZ.zr w⟩⟩
def OwnI {α:Type} [Rep α] (lo hi:Nat) (w:World) (v:Value) (x:α):Prop:=∃ F,Mine F w v x∧∀ b∈F,lo≤b∧b<hi
structure ChgI (lo hi:Nat) (w w':World):Prop where
 os:w'.os=w.os
 tape:w'.tape=w.tape
 output:w'.output=w.output
 size:w.heap.size≤w'.heap.size
 block:∀ b,b<w.heap.size→(b<lo∨hi≤b)→w'.heap[b]?=w.heap[b]?
section
variable {w w':World} {α:Type} [Rep α] {lo hi a b:Nat} {v:Value} {x:α}
theorem Chg.toI {F:List Nat} (h:Chg F w w') (hF:∀ b∈F,lo≤b∧b<hi):ChgI lo hi w w':=
 ⟨h.os,h.tape,h.output,h.size,fun i hi' ho=>h.block i hi' fun e=>by have:=hF i e;omega⟩
theorem Ext.toI (h:Ext w w'):ChgI lo hi w w':=⟨h.os,h.tape,h.output,h.size,fun i hi' _=>h.block i hi'⟩
theorem ChgI.refl (w:World):ChgI lo hi w w:=⟨rfl,rfl,rfl,Nat.le_refl _,fun _ _ _=>rfl⟩
theorem ChgI.trans {w'':World} (h:ChgI lo hi w w') (k:ChgI lo hi w' w''):ChgI lo hi w w'':=
 ⟨k.os.trans h.os,k.tape.trans h.tape,k.output.trans h.output,Nat.le_trans h.size k.size,fun i hi' ho=>(k.block i (Nat.lt_of_lt_of_le hi' h.size) ho).trans (h.block i hi' ho)⟩
theorem ChgI.mono {lo' hi':Nat} (h:ChgI lo hi w w') (h1:lo'≤lo) (h2:hi≤hi'):ChgI lo' hi' w w':=
 ⟨h.os,h.tape,h.output,h.size,fun i hi' ho=>h.block i hi' (by omega)⟩
theorem Ext.chgI {c:World} (h:Ext w w') (k:ChgI lo hi w' c) (hl:w.heap.size≤lo):Ext w c:=
 ⟨k.os.trans h.os,k.tape.trans h.tape,k.output.trans h.output,Nat.le_trans h.size k.size,fun i hi'=>(k.block i (Nat.lt_of_lt_of_le hi' h.size) (by omega)).trans (h.block i hi')⟩
theorem Own.toI (h:Own lo w v x):OwnI lo w.heap.size w v x:=by
 obtain ⟨F,hm,hl⟩:=h;exact ⟨F,hm,fun b hb=>⟨hl b hb,hm.lt b hb⟩⟩
theorem OwnI.own (h:OwnI lo hi w v x):Own lo w v x:=by
 obtain ⟨F,hm,hl⟩:=h;exact ⟨F,hm,fun b hb=>(hl b hb).1⟩
theorem OwnI.is (h:OwnI lo hi w v x):Is w v x:=by obtain ⟨F,hm,_⟩:=h;exact hm.is
theorem OwnI.ext (h:OwnI lo hi w v x) (hx:Ext w w'):OwnI lo hi w' v x:=by obtain ⟨F,hm,hl⟩:=h;exact ⟨F,hm.ext hx,hl⟩
theorem OwnI.chg (h:OwnI lo hi w v x) (hc:ChgI a b w w') (hd:hi≤a∨b≤lo):OwnI lo hi w' v x:=by
 obtain ⟨F,hm,hl⟩:=h
 exact ⟨F,hm.keep fun c hcm=>hc.block c (hm.lt c hcm) (by have:=hl c hcm;omega),hl⟩
theorem OwnI.mono {lo' hi':Nat} (h:OwnI lo hi w v x) (h1:lo'≤lo) (h2:hi≤hi'):OwnI lo' hi' w v x:=by
 obtain ⟨F,hm,hl⟩:=h;exact ⟨F,hm,fun b hb=>by have:=hl b hb;omega⟩
def VarI {α:Type} [Rep α] (lo hi:Nat) (w:World) (g:Nat) (x:α):Prop:=∃ F,OAt F w g 0 x∧∀ b∈F,lo≤b∧b<hi
theorem OAt.keep {F:List Nat} {g o:Nat} (h:OAt F w g o x) (hk:∀ c∈g :: F,w'.heap[c]?=w.heap[c]?):OAt F w' g o x:=by
 obtain ⟨cs,hr,ha,hn,hw,hb,c,e,hc⟩:=h
 have hg:=hk g (by simp)
 exact ⟨cs,Rep.keep hr fun b hb=>hk b (by simp [hb]),zcd ha hg,hn,hw.keep fun b hb=>hk b (by simp [hb]),hb,c,e,by rw [hg];exact hc⟩
theorem VarI.lt {g:Nat} (h:VarI lo hi w g x):g<w.heap.size:=by obtain ⟨F,h,_⟩:=h;exact h.lt
theorem OAt.lts {F:List Nat} {g o:Nat} (h:OAt F w g o x):∀ c∈g :: F,c<w.heap.size:=by
 intro c hc
 rcases List.mem_cons.1 hc with rfl | hc
 · exact h.lt
 obtain ⟨cs,hr,_⟩:=h;exact Rep.lt hr c hc
theorem VarI.ext {g:Nat} (h:VarI lo hi w g x) (hx:Ext w w'):VarI lo hi w' g x:=by
 obtain ⟨F,h,hl⟩:=h
 exact ⟨F,h.keep fun c hc=>hx.heap (h.lts c hc),hl⟩
theorem VarI.chg {g:Nat} (h:VarI lo hi w g x) (hc:ChgI a b w w') (hd:hi≤a∨b≤lo) (hg:g<a∨b≤g):VarI lo hi w' g x:=by
 obtain ⟨F,h,hl⟩:=h
 refine ⟨F,h.keep fun c hcm=>hc.block c (h.lts c hcm) ?_,hl⟩
 rcases List.mem_cons.1 hcm with rfl | hcm
 · omega
 have:=hl c hcm;omega
theorem VarI.at {g:Nat} (h:VarI lo hi w g x):At w g 0 x:=by obtain ⟨F,h,_⟩:=h;exact h.at
theorem VarI.own {g:Nat} (h:VarI lo hi w g x):∃ v,OwnI lo hi w v x∧∃ cs F,Rep.rep F w cs x∧w.rangeAt g 0 cs∧v=mkv α cs:=by
 obtain ⟨F,⟨cs,hr,ha,hn,hw,_⟩,hl⟩:=h
 exact ⟨mkv α cs,⟨F,⟨⟨cs,hr,rfl⟩,hn,hw⟩,hl⟩,cs,F,hr,ha,rfl⟩
section
variable {P:Program} {w0:World}
theorem zfg [RepZ α] {e:TypeId} {K:Value→World→Prop} (hz:zcQ P e=some (RepZ.zc α))
   (k:∀ w',Ext w w'→VarI w'.heap.size w'.heap.size w' w.heap.size ((RepZ.zv:α))→K (.pointer (some ⟨w.heap.size,0,none⟩)) w'):OP P (Instr.alloc e true (.tuple #[])) w K:=
 zlm hz fun w' hx hB=>k w' hx ⟨[],⟨RepZ.zc α,RepZ.zr w',hB.range,List.nodup_nil,Wr.nil _,by simp,_,_,hB⟩,by simp⟩
theorem zkp {t by_ g:Nat} {K:Value→Prop} (ht:tyI P t=some (Rep.size α,by_,Rep.agg α)) (h:VarI lo hi w0 g x) (hx:Ext w0 w) (k:∀ v,OwnI lo hi w0 v x→K v) :
   RD P (Instr.loadAt t (.pointer (some ⟨g,0,none⟩))) w K:=by
 obtain ⟨v,ho,cs,F,hr,ha,rfl⟩:=h.own
 exact za4 (fun w' hx'=>zd4 ht (zb4 hr (hx.trans hx')) (zbp ha (hx.trans hx'))) (k _ ho)
theorem zgE {t by_ g:Nat} {K:Value→Prop} (ht:tyI P t=some (Rep.size α,by_,Rep.agg α)) (h:VarI lo hi w0 g x) (hx:Ext w0 w) (k:∀ v,OwnI lo hi w0 v x→K v) :
   RD P (zeu t (.pointer (some ⟨g,0,none⟩))) w K:=by
 obtain ⟨v,ho,cs,F,hr,ha,rfl⟩:=h.own
 refine za4 (fun w' hx'=>?_) (k _ ho)
 have:=zd4 ht (zb4 hr (hx.trans hx')) (zbp ha (hx.trans hx'))
 simpa [zeu,asAddr,Instr.loadAt,Instr.sureAddr] using this
theorem zb0 {β:Type} [Rep β] {t by_ g o:Nat} {F G:List Nat} {y y':β} {upd:β→α} {u:Value} {lo2 hi2:Nat} {K:World→Prop} (ht:tyI P t=some (Rep.size β,by_,Rep.agg β)) (hL:Lens (VH g) (g :: F) w g o G y upd) (hF:∀ b∈F,lo≤b∧b<hi)
   (hu:OwnI lo2 hi2 w u y') (h1:hi≤lo2) (h2:g<lo2) (k:∀ w',ChgI g (g+1) w w'→(∀ lo',lo'≤lo→lo'≤lo2→∀ hi',hi≤hi'→hi2≤hi'→VarI lo' hi' w' g (upd y'))→K w'):OPU P (Instr.storeAt t (.pointer (some ⟨g,o,none⟩)) u) w K:=by
 obtain ⟨G',hM,hG'⟩:=hu
 have hs:∀ c∈G',c∈G∨c∉g :: F:=fun c hc=>.inr fun hm=>by
   have:=hG' c hc
   rcases List.mem_cons.1 hm with rfl | hm
   · omega
   have:=hF c hm;omega
 have hgG':g∉G':=fun h=>by have:=hG' g h;omega
 refine zmY ht hL.here hM.own hM.nodup hM.wr hgG' fun w' hch hO=>k w' (hch.chg.toI (by simp)) ?_
 obtain ⟨F',h3,h4⟩:=hL.back w' G' y' (hch.mono (Nat.le_refl _) (Nat.le_refl _) (by simp)) hO hs
 intro lo' hl1 hl2 hi' hh1 hh2
 refine ⟨F',h3,fun c hc=>?_⟩
 rcases h4 c hc with h | h
 · rcases List.mem_cons.1 h with rfl | h
   · obtain ⟨_,_,_,_,_,hn,_⟩:=h3;exact absurd hc hn
   have:=hF c h;omega
 have:=hG' c h;omega
theorem zgF {t by_ g:Nat} {x0:α} {lo0 hi0:Nat} {u:Value} {K:World→Prop} (ht:tyI P t=some (Rep.size α,by_,Rep.agg α)) (hv:VarI lo0 hi0 w g x0) (hu:OwnI lo hi w u x) (hg:g<lo∨hi≤g)
   (k:∀ w',ChgI g (g+1) w w'→VarI lo hi w' g x→K w'):OPU P (Instr.storeAt t (.pointer (some ⟨g,0,none⟩)) u) w K:=by
 obtain ⟨F,hO,_⟩:=hv
 obtain ⟨G',hM,hG'⟩:=hu
 have hgG':g∉G':=fun h=>by have:=hG' g h;omega
 exact zmY ht hO hM.own hM.nodup hM.wr hgG' fun w' hch hO'=>k w' (hch.chg.toI (by simp)) ⟨G',hO',hG'⟩
end
theorem ownI_int {x:Int} (h:I64 x):OwnI lo hi w (.int .i64 x) x:=⟨[],⟨⟨_,⟨rfl,rfl,h⟩,rfl⟩,List.nodup_nil,Wr.nil w⟩,by simp⟩
theorem zoC {x:ByteArray} (h:x.size≤maxLen):OwnI lo hi w (.string x) x:=⟨[],⟨⟨_,⟨rfl,rfl,h⟩,rfl⟩,List.nodup_nil,Wr.nil w⟩,by simp⟩
end
end Go.Sh
namespace Go.Sh
open Rep (rep)
section
variable {w:World} {b o:Nat}
end
structure DRace where
 g:Int
 a:Int
 b:Int
theorem DRace.ext_iff {x y:DRace}:x=y↔(x.g=y.g∧x.a=y.a∧x.b=y.b):=⟨fun h=>by rw [h];exact ⟨rfl,rfl,rfl⟩,fun h=>by obtain ⟨h0,h1,h2⟩:=h;cases x;cases y;simp only at h0 h1 h2;simp only [h0,h1,h2]⟩
instance:DecidableEq DRace:=fun x y=>decidable_of_iff (x.g=y.g∧x.a=y.a∧x.b=y.b) DRace.ext_iff.symm
instance:Rep DRace:=Rep.via fun x=>(x.g,x.a,x.b)
theorem zb1 {w:World} {b o:Nat} {x:DRace} (h:At w b o x):At w b (o+0) x.g:=zcW (α:=Int) (β:=Int×Int) (p:=(x.g,x.a,x.b)) h
theorem zct {w:World} {b o:Nat} {x:DRace} (h:At w b o x):At w b (o+1) x.a:=zcW (α:=Int) (β:=Int) (p:=(x.a,x.b)) (zbm (α:=Int) (β:=Int×Int) (p:=(x.g,x.a,x.b)) h)
theorem zdK {w:World} {b o:Nat} {x:DRace} (h:At w b o x):At w b (o+2) x.b:=zbm (α:=Int) (β:=Int) (p:=(x.a,x.b)) (zbm (α:=Int) (β:=Int×Int) (p:=(x.g,x.a,x.b)) h)
instance:RepZ DRace:=⟨⟨(RepZ.zv:Int),(RepZ.zv:Int),(RepZ.zv:Int)⟩,RepZ.zc (Int×Int×Int),fun w=>RepZ.zr (α:=Int×Int×Int) w⟩
theorem zjm {γ:Type} {H:List Nat→World→γ→Prop} {F:List Nat} {w:World} {b o:Nat} {G:List Nat} {x:DRace} {upd:DRace→γ} (h:Lens H F w b o G x upd) :
   ∃ G1,Lens H F w b (o+0) G1 x.g (fun y=>upd ⟨y,x.a,x.b⟩):=by
 have h':Lens H F w b o G (x.g,x.a,x.b) (fun p:Int×Int×Int=>upd ⟨p.1,p.2.1,p.2.2⟩):=⟨h.here,h.sub,fun w' G' y' hc hO hs=>h.back w' G' _ hc hO hs⟩
 obtain ⟨G0,h'⟩:=h'.fst
 exact ⟨_,h'⟩
theorem zjn {γ:Type} {H:List Nat→World→γ→Prop} {F:List Nat} {w:World} {b o:Nat} {G:List Nat} {x:DRace} {upd:DRace→γ} (h:Lens H F w b o G x upd) :
   ∃ G1,Lens H F w b (o+1) G1 x.a (fun y=>upd ⟨x.g,y,x.b⟩):=by
 have h':Lens H F w b o G (x.g,x.a,x.b) (fun p:Int×Int×Int=>upd ⟨p.1,p.2.1,p.2.2⟩):=⟨h.here,h.sub,fun w' G' y' hc hO hs=>h.back w' G' _ hc hO hs⟩
 obtain ⟨G0,h'⟩:=h'.snd
 obtain ⟨G1,h'⟩:=h'.fst
 exact ⟨_,h'⟩
theorem zjo {γ:Type} {H:List Nat→World→γ→Prop} {F:List Nat} {w:World} {b o:Nat} {G:List Nat} {x:DRace} {upd:DRace→γ} (h:Lens H F w b o G x upd) :
   ∃ G1,Lens H F w b (o+2) G1 x.b (fun y=>upd ⟨x.g,x.a,y⟩):=by
 have h':Lens H F w b o G (x.g,x.a,x.b) (fun p:Int×Int×Int=>upd ⟨p.1,p.2.1,p.2.2⟩):=⟨h.here,h.sub,fun w' G' y' hc hO hs=>h.back w' G' _ hc hO hs⟩
 obtain ⟨G0,h'⟩:=h'.snd
 obtain ⟨G1,h'⟩:=h'.snd
 exact ⟨_,h'⟩
instance:Flat DRace:=⟨fun h=>Flat.flat (α:=Int×Int×Int) h⟩
structure DState where
 vars:List Int
 owner:List Int
 stacks:List (List Int)
theorem DState.ext_iff {x y:DState}:x=y↔(x.vars=y.vars∧x.owner=y.owner∧x.stacks=y.stacks):=⟨fun h=>by rw [h];exact ⟨rfl,rfl,rfl⟩,fun h=>by obtain ⟨h0,h1,h2⟩:=h;cases x;cases y;simp only at h0 h1 h2;simp only [h0,h1,h2]⟩
instance:DecidableEq DState:=fun x y=>decidable_of_iff (x.vars=y.vars∧x.owner=y.owner∧x.stacks=y.stacks) DState.ext_iff.symm
instance:Rep DState:=Rep.via fun x=>(x.vars,x.owner,x.stacks)
instance:RepZ DState:=⟨⟨(RepZ.zv:List Int),(RepZ.zv:List Int),(RepZ.zv:List (List Int))⟩,RepZ.zc ((List Int)×(List Int)×(List (List Int))),fun w=>RepZ.zr (α:=(List Int)×(List Int)×(List (List Int))) w⟩
section
variable {w:World} {b o:Nat}
theorem zg3 {v:Value} {x:DRace}:Is w v x↔v=.agg #[.int .i64 x.g,.int .i64 x.a,.int .i64 x.b]∧I64 x.g∧I64 x.a∧I64 x.b:=by
 constructor
 · rintro ⟨F,cs,⟨F1,F2,c1,c2,rfl,rfl,⟨rfl,rfl,h1⟩,⟨F3,F4,c3,c4,rfl,rfl,⟨rfl,rfl,h2⟩,⟨rfl,rfl,h3⟩⟩⟩,rfl⟩
   exact ⟨rfl,h1,h2,h3⟩
 rintro ⟨rfl,h1,h2,h3⟩
 exact ⟨[],[.int .i64 x.g,.int .i64 x.a,.int .i64 x.b],⟨[],[],[.int .i64 x.g],[.int .i64 x.a,.int .i64 x.b],rfl,rfl,⟨rfl,rfl,h1⟩,[],[],[.int .i64 x.a],[.int .i64 x.b],rfl,rfl,⟨rfl,rfl,h2⟩,⟨rfl,rfl,h3⟩⟩,rfl⟩
theorem zmZ {x:DRace} (h1:I64 x.g) (h2:I64 x.a) (h3:I64 x.b):Mine [] w (.agg #[.int .i64 x.g,.int .i64 x.a,.int .i64 x.b]) x:=
 ⟨⟨[.int .i64 x.g,.int .i64 x.a,.int .i64 x.b],⟨[],[],[.int .i64 x.g],[.int .i64 x.a,.int .i64 x.b],rfl,rfl,⟨rfl,rfl,h1⟩,[],[],[.int .i64 x.a],[.int .i64 x.b],rfl,rfl,⟨rfl,rfl,h2⟩,⟨rfl,rfl,h3⟩⟩,rfl⟩,List.nodup_nil,Wr.nil w⟩
end
end Go.Sh
namespace Go.Proofs.YtifonhplnmpgaaaGreat
open Go Go.Sh Go.Proofs
open Rep (rep)
theorem zpZ {P:Program} {w:World} {K:Value→Prop} {t:TypeId} {x y:Operand} {a b:Bool} (ht:P.underlying t=some .bool) (k:K (.bool (decide (a≠b)))):RD P (bin .neq t x y (.bool a) (.bool b)) w K:=
 za4 (fun w' _=>by
   have:=run_neq_bool (P:=P) w' t a b ht
   cases a<;>cases b<;>simp_all [bin,eqGuard]) k
def sm {α:Type} (f:α→Nat) (l:List α):Nat:=(l.map f).sum
theorem zg4 {α:Type} (f:α→Nat) {l:List α} {k:Nat} (h:k<l.length):sm f (l.take (k+1))=sm f (l.take k)+f l[k]:=by
 unfold sm
 rw [List.take_succ_eq_append_getElem h,List.map_append,List.sum_append]
 simp
theorem zpt {α:Type} (f:α→Nat) {l:List α} {x:α} (h:x∈l):f x≤sm f l:=by
 unfold sm
 induction l with
 | nil=>cases h
 | cons y l ih=>
   rw [List.map_cons,List.sum_cons]
   rcases List.mem_cons.1 h with rfl | h
   · omega
   have:=ih h;omega
theorem zma {w w1 w2:World} {v1 v2:Value} {l1 l2:List Int} (h1:Is w1 v1 l1) (hx1:Ext w1 w) (h2:Is w2 v2 l2) (hx2:Ext w2 w) :
   CALL Tryz.prog 11 [v1,v2] w fun r w'=>Ext w w'∧r=.bool (decide (l1=l2)):=zmT h1 h2 hx1 hx2
def F33 (a0 a1:Value) (w:World) (R:VW):Prop:=
 rN 23 3 a0 w fun x7=>
 rB .sub 3 T0 T0 a1 x7 w fun x8=>
 rB .lss 3 T0 U0 x8 (iV 0) w fun x10=>
 BR x10
 (R (iV (-1)) w)
 (R x8 w)
def cfg33:Cfg:=⟨extL,[],[],[],[],[],[]⟩
theorem F33_call {a0 a1:Value} {w:World} {R:VW} (h:F33 a0 a1 w R):cL 33 [a0,a1] w R:=co (g:=cfg33) Tryz.func33 (by kernel_rfl) (by kernel_rfl) (by kernel_rfl) h
theorem zm0 {w:World} {v0:Value} {W0:World} {l:(List Int)} {left:Int}  (h0:Is W0 v0 l) (e0:Ext W0 w) (hl0:-1≤left) (hl1:left≤1048576) :
   CALL Tryz.prog 33 [v0,.int .i64 left] w fun r w'=>Ext w w'∧(∃ n:Int,r=.int .i64 n∧-1≤n∧n≤left∧(0≤n→n+l.length≤left)):=by
 refine F33_call ?_
 unfold F33
 have hl:=zal h0
 have hln7:=zal h0
 refine zaf u23 h0 ?_
 refine zbC (by unfold I64;omega) ?_
 refine zah ?_
 refine br (fun c1=>?_) (fun c1=>?_)
 · refine ⟨Ext.refl w,?_⟩
   exact ⟨-1,rfl,by omega,by omega,by omega⟩
 refine ⟨Ext.refl w,?_⟩
 exact ⟨_,rfl,by omega,by omega,by omega⟩
def F53 (a0 a1:Value) (w:World) (R:VW):Prop:=
 oP (Instr.box 79 a0) w fun x2 w=>
 oP (Instr.box 79 a1) w fun x3 w=>
 rF 79 x2 0 w fun x5=>
 rL 3 x5 w fun x6=>
 rF 79 x3 0 w fun x7=>
 rL 3 x7 w fun x8=>
 rB .neq 3 T0 T0 x6 x8 w fun x9=>
 BR x9
 (R (Value.bool false) w)
 (rF 79 x2 1 w fun x10=>
 rL 3 x10 w fun x11=>
 rF 79 x3 1 w fun x12=>
 rL 3 x12 w fun x13=>
 rB .neq 3 T0 T0 x11 x13 w fun x14=>
 BR x14
 (R (Value.bool false) w)
 (rF 79 x2 2 w fun x15=>
 rL 3 x15 w fun x16=>
 rF 79 x3 2 w fun x17=>
 rL 3 x17 w fun x18=>
 rB .neq 3 T0 T0 x16 x18 w fun x19=>
 BR x19
 (R (Value.bool false) w)
 (R (Value.bool true) w)))
def cfg53:Cfg:=⟨extL,[],[],[],[],[],[]⟩
theorem F53_call {a0 a1:Value} {w:World} {R:VW} (h:F53 a0 a1 w R):cL 53 [a0,a1] w R:=co (g:=cfg53) Tryz.func53 (by kernel_rfl) (by kernel_rfl) (by kernel_rfl) h
theorem zm1 {w:World} {v0:Value} {W0:World} {s1:DRace} {v1:Value} {W1:World} {s2:DRace}  (h0:Is W0 v0 s1) (e0:Ext W0 w) (h1:Is W1 v1 s2) (e1:Ext W1 w)  :
   CALL Tryz.prog 53 [v0,v1] w fun r w'=>Ext w w'∧(r=.bool (decide (s1=s2))):=by
 refine F53_call ?_
 unfold F53
 refine zaB zcf rfl h0 e0 fun w1_ hx1_ hA2 hV2=>?_
 refine zaB zcf rfl h1 (e1.trans hx1_) fun w2_ hx2_ hA3 hV3=>?_
 refine zaa zen ?_
 refine zac ty3 (zb1 hA2) hx2_ fun hI6=>?_
 refine zaa zen ?_
 refine zac ty3 (zb1 hA3) (Ext.refl w2_) fun hI8=>?_
 refine zaz ?_
 refine br (fun c1=>?_) (fun c1=>?_)
 · refine ⟨(hx1_.trans hx2_),?_⟩
   have:s1≠s2:=fun e=>c1 (by rw [e])
   simp [this]
 refine zaa ze7 ?_
 refine zac ty3 (zct hA2) hx2_ fun hI11=>?_
 refine zaa ze7 ?_
 refine zac ty3 (zct hA3) (Ext.refl w2_) fun hI13=>?_
 refine zaz ?_
 refine br (fun c2=>?_) (fun c2=>?_)
 · refine ⟨(hx1_.trans hx2_),?_⟩
   have:s1≠s2:=fun e=>c2 (by rw [e])
   simp [this]
 refine zaa zgs ?_
 refine zac ty3 (zdK hA2) hx2_ fun hI16=>?_
 refine zaa zgs ?_
 refine zac ty3 (zdK hA3) (Ext.refl w2_) fun hI18=>?_
 refine zaz ?_
 refine br (fun c3=>?_) (fun c3=>?_)
 · refine ⟨(hx1_.trans hx2_),?_⟩
   have:s1≠s2:=fun e=>c3 (by rw [e])
   simp [this]
 refine ⟨(hx1_.trans hx2_),?_⟩
 have:s1=s2:=by
   cases s1;cases s2
   simp only [ne_eq,Decidable.not_not] at c1 c2 c3
   rw [c1,c2,c3]
 simp [this]
def F23 (a0 a1:Value) (w:World) (R:VW):Prop:=
 rN 43 3 a0 w fun x7=>
 rN 43 3 a1 w fun x9=>
 rB .neq 3 T0 T0 x7 x9 w fun x10=>
 BR x10
 (R (Value.bool false) w)
 (LOOPI [5] [(iV 0)] w fun u4 w next4=>
 rN 43 3 a0 w fun x13=>
 rC (u4 5) x13 w fun x14=>
 BR x14
 ((fun w=>rX 43 a0 (u4 5) w fun x19=>
 rL 79 x19 w fun x20=>
 rX 43 a1 (u4 5) w fun x23=>
 rL 79 x23 w fun x24=>
 cL 53 [x20,x24] w fun x25 w=>
 rD (Op.unary .not x25) w fun x26=>
 BR x26
 (R (Value.bool false) w)
 (rA (u4 5) (iV 1) w fun x16=>
 next4 [x16] w)) (World.drew1 w))
 (R (Value.bool true) w))
def cfg23:Cfg:=⟨extL,[],[(4,134215728,[5])],[(6,[0,1,2,3,4,5,6,7,8,9],0)],[],[],[]⟩
theorem F23_call {a0 a1:Value} {w:World} {R:VW} (h:F23 a0 a1 w R):cL 23 [a0,a1] w R:=co (g:=cfg23) Tryz.func23 (by kernel_rfl) (by kernel_rfl) (by kernel_rfl) h
theorem zf7 {w:World} {v0:Value} {W0:World} {l1:(List DRace)} {v1:Value} {W1:World} {l2:(List DRace)}  (h0:Is W0 v0 l1) (e0:Ext W0 w) (h1:Is W1 v1 l2) (e1:Ext W1 w)  :
   CALL Tryz.prog 23 [v0,v1] w fun r w'=>Ext w w'∧(r=.bool (decide (l1=l2))):=by
 refine F23_call ?_
 unfold F23
 have hl1:=zal h0
 have hln7:=zal h0
 refine zaf u43 h0 ?_
 have hln9:=zal h1
 refine zaf u43 h1 ?_
 refine zaz ?_
 refine br (fun c1=>?_) (fun c1=>?_)
 · refine ⟨Ext.refl w,?_⟩
   have:l1≠l2:=fun e=>c1 (by rw [e])
   simp [this]
 refine zas (l1.length) (fun k us w'=>us=[.int .i64 (k:Int)]∧Ext w w'∧(l1.take k=l2.take k)) (0) (by omega) ⟨by simp,Ext.refl w,by simp⟩ ?_
 rintro k m4 uu4 w1_ hk4 ⟨hu,hx1_,hinv⟩
 simp only [List.map_cons,List.map_nil,List.cons.injEq,and_true] at hu
 try rw [hu]
 try clear hu
 have hln13:=zal h0
 refine zaf u43 h0 ?_
 refine zah ?_
 refine br (fun c2=>?_) (fun c2=>?_)
 · have hx2_:=zan w1_
   refine zad u43 zcf h0 (by omega) fun b19 o19 h19=>?_
   refine zab zcf h19 (e0.trans (hx1_.trans hx2_)) fun v20 h20=>?_
   refine zad u43 zcf h1 (by omega) fun b23 o23 h23=>?_
   refine zab zcf h23 (e1.trans (hx1_.trans hx2_)) fun v24 h24=>?_
   refine (zm1 h20 (e0.trans (hx1_.trans hx2_)) h24 (e1.trans (hx1_.trans hx2_))).mono ?_
   rintro _ w3_ ⟨hx3_,rfl⟩
   refine zaA ?_
   refine br (fun c3=>?_) (fun c3=>?_)
   · refine ⟨(hx1_.trans (hx2_.trans hx3_)),?_⟩
     have:l1≠l2:=fun e=>c3 (by subst e;rfl)
     simp [this]
   refine zag (by omega) ?_
   refine ⟨m4-1,by omega,k+1,by omega,by simp,(hx1_.trans (hx2_.trans hx3_)),?_⟩
   rw [List.take_succ_eq_append_getElem (by omega),List.take_succ_eq_append_getElem (by omega),hinv,Decidable.not_not.1 c3]
 refine ⟨hx1_,?_⟩
 rw [List.take_of_length_le (by omega),List.take_of_length_le (by omega)] at hinv
 simp [hinv]
def F125 (a0 a1 a2:Value) (w:World) (R:VW):Prop:=
 rB .geq 3 T0 T0 a0 a1 w fun x9=>
 BR x9
 (rB .leq 3 T0 T0 a0 a2 w fun x13=>
 R x13 w)
 (R (Value.bool false) w)
def cfg125:Cfg:=⟨extL,[],[],[],[],[],[]⟩
theorem F125_call {a0 a1 a2:Value} {w:World} {R:VW} (h:F125 a0 a1 a2 w R):cL 125 [a0,a1,a2] w R:=co (g:=cfg125) Tryz.func125 (by kernel_rfl) (by kernel_rfl) (by kernel_rfl) h
theorem zeT {w:World} {a:Int} {b:Int} {c:Int}    :
   CALL Tryz.prog 125 [.int .i64 a,.int .i64 b,.int .i64 c] w fun r w'=>Ext w w'∧(r=.bool (decide (b≤a∧a≤c))):=by
 refine F125_call ?_
 unfold F125
 refine zci ?_
 refine br (fun c1=>?_) (fun c1=>?_)
 · refine zcU ?_
   refine ⟨Ext.refl w,?_⟩
   simp [c1]
 refine ⟨Ext.refl w,?_⟩
 simp [c1]
def zqU (s:DState) (t:Int):Int:=if h:0≤t∧t.toNat<s.stacks.length then (s.stacks[t.toNat]'h.2).getLastD (-1) else -1
end Go.Proofs.YtifonhplnmpgaaaGreat
namespace Go.Sh
open Rep (rep)
def zde (P:Program) (t:TypeId) (α:Type) [Rep α] (n:Nat):Prop:=
 ∀ (H:Type) (enc:TypeId×Value→H) (w:World) (spare:Nat→Bool) (held:Bool) (cs:List Value) (y:DataW H×List MemPlace),DataW.trod enc P w 0 spare held n t cs=some y→∃ F x,rep F w cs (x:α)
section
variable {P:Program} {t:TypeId}
theorem zdf (ht:P.underlying t=some (.int .i64)) (n:Nat):zde P t Int n:=by
 intro H enc w spare held cs y h
 obtain ⟨m,rfl,_,hw⟩:=DataW.trod_int ht h
 refine ⟨[],m,rfl,rfl,?_⟩
 simpa [Lit.wf,IntKind.min,IntKind.max,IntKind.signed,IntKind.bits,I64] using hw
theorem zjp (ht:P.underlying t=some .string) (n:Nat):zde P t ByteArray n:=by
 intro H enc w spare held cs y h
 obtain ⟨s,rfl,_,hs⟩:=DataW.trod_string ht h
 exact ⟨[],s,rfl,rfl,hs⟩
theorem zjq {α β:Type} {f:α→Option β}:∀ {l:List α} {r:List β},l.mapM f=some r→l.length=r.length∧∀ (i:Nat) x,l[i]?=some x→∃ y,f x=some y∧r[i]?=some y
 | [],r,h=>by simp at h;subst h;simp
 | a :: l,r,h=>by
   simp only [List.mapM_cons,Option.pure_def,Option.bind_eq_bind,Option.bind_eq_some_iff,Option.some.injEq] at h
   obtain ⟨b,hb,bs,hbs,rfl⟩:=h
   obtain ⟨h1,h2⟩:=zjq hbs
   refine ⟨by simp [h1],fun i x hx=>?_⟩
   cases i with
   | zero=>simp at hx;subst hx;exact ⟨b,hb,by simp⟩
   | succ i=>obtain ⟨y,hy,hr⟩:=h2 i x (by simpa using hx);exact ⟨y,hy,by simpa using hr⟩
theorem zkq {w:World} {a:Addr} {n:Nat} {cs:List Value} (h:w.cells? 0 a n=some cs):cs.length=n∧∀ j v,cs[j]?=some v→w.cell? (a.add j)=some v:=by
 unfold World.cells? at h
 simp only [Nat.zero_le,if_true] at h
 obtain ⟨h1,h2⟩:=zjq h
 simp only [List.length_range] at h1
 refine ⟨h1.symm,fun j v hv=>?_⟩
 have hj:j<cs.length:=(List.getElem?_eq_some_iff.1 hv).1
 obtain ⟨y,hy,hr⟩:=h2 j j (by rw [List.getElem?_range (by omega)])
 rw [hr] at hv
 cases hv
 exact hy
theorem zm2 {w:World} {a:Addr} {v:Value} (h:w.cell? a=some v):a.spot=none:=by
 unfold World.cell? at h
 split at h
 · split at h
   · cases h
   rename_i hs;simpa using hs
 cases h
theorem zjr {α:Type} [Rep α] {w:World} {b o:Nat}:∀ (n:Nat),(∀ i,i<n→∃ (cs:List Value) (F:List Nat) (x:α),w.rangeAt b (o+i*Rep.size α) cs∧rep F w cs x) →
   ∃ (F:List Nat) (xs:List Value) (l:List α),l.length=n∧Cells F w xs l∧w.rangeAt b o xs
 | 0,_=>⟨[],[],[],rfl,⟨rfl,rfl⟩,fun j v hv=>by simp at hv⟩
 | n+1,h=>by
   obtain ⟨F,xs,l,hl,hc,hr⟩:=zjr n fun i hi=>h i (by omega)
   obtain ⟨cs,G,x,hra,hx⟩:=h n (by omega)
   refine ⟨F++G,xs++cs,l++[x],by simp [hl],Cells.append hc (Cells.single hx),?_⟩
   intro j v hv
   have hlen:=Cells.len hc
   rw [hl] at hlen
   rcases Nat.lt_or_ge j xs.length with hj | hj
   · rw [List.getElem?_append_left hj] at hv;exact hr j v hv
   rw [List.getElem?_append_right hj] at hv
   have:=hra (j-xs.length) v hv
   rwa [show o+n*Rep.size α+(j-xs.length)=o+j by omega] at this
theorem zg5 {e:TypeId} {α:Type} [Rep α] {n:Nat} (ht:P.underlying t=some (.slice e)) (hc:P.cellsOf e=Rep.size α) (he:zde P e α n):zde P t (List α) (n+1):=by
 intro H enc w spare held cs y h
 rcases DataW.trod_slice ht h with ⟨rfl,_⟩ | ⟨a,len,cap,elems,rest,m,hm,rfl,_,_,h1,h2,h3,h4,_⟩
 · exact ⟨[],[],none,0,[],[],rfl,Nat.le_refl _,Nat.zero_le _,⟨rfl,rfl⟩,.inl ⟨rfl,rfl⟩⟩
 obtain rfl:m=n:=by omega
 by_cases h0:len=0
 · subst h0
   exact ⟨[],[],some a,cap,[],[],rfl,Nat.zero_le _,h2,⟨rfl,rfl⟩,.inl ⟨rfl,rfl⟩⟩
 have key:∀ i,i<len→∃ (cs:List Value) (F:List Nat) (x:α),cs.length=Rep.size α∧(∀ j v,cs[j]?=some v→w.cell? ((a.add (i*P.cellsOf e)).add j)=some v)∧rep F w cs x:=by
   intro i hi
   have hy:=h4 i hi
   rw [List.getElem?_eq_getElem (by omega)] at hy
   obtain ⟨cs,hcs,hy⟩:=Option.bind_eq_some_iff.1 hy
   obtain ⟨F,x,hx⟩:=he H enc w spare held cs _ hy
   obtain ⟨hl,hcell⟩:=zkq hcs
   exact ⟨cs,F,x,by rw [hl,hc],hcell,hx⟩
 have hsp:a.spot=none:=by
   obtain ⟨cs,F,x,hl,hcell,_⟩:=key 0 (by omega)
   have hp:=Rep.pos (α:=α)
   have:=hcell 0 (cs[0]'(by omega)) (by rw [List.getElem?_eq_getElem])
   simpa [Addr.add] using zm2 this
 obtain ⟨b,o,sp⟩:=a
 simp only at hsp
 subst hsp
 obtain ⟨F,xs,l,hl,hC,hR⟩:=zjr (α:=α) (w:=w) (b:=b) (o:=o) len fun i hi=>by
   obtain ⟨cs,F,x,_,hcell,hx⟩:=key i hi
   refine ⟨cs,F,x,fun j v hv=>?_,hx⟩
   have:=hcell j v hv
   rw [hc] at this
   rwa [Addr.add_mid,Addr.add_mid] at this
 have hb:b<w.heap.size:=zl8 hR (by rw [Cells.len hC,hl];exact Nat.mul_pos (by omega) Rep.pos)
 subst hl
 exact ⟨b :: F,l,some ⟨b,o,none⟩,cap,F,xs,rfl,h1,h2,hC,.inr ⟨b,o,rfl,rfl,hR,hb⟩⟩
theorem zjs {α β:Type} [Rep β] {f:α→β} {g:β→α} (hg:∀ y,f (g y)=y) {n:Nat} (h:zde P t β n):@zde P t α (Rep.via f) n:=by
 intro H enc w spare held cs y hy
 obtain ⟨F,x,hx⟩:=h H enc w spare held cs y hy
 exact ⟨F,g x,show rep F w cs (f (g x)) by rw [hg];exact hx⟩
theorem zg6 {cs:List Value} {o a b:Nat}:(cs.drop o).take (a+b)=(cs.drop o).take a++(cs.drop (o+a)).take b:=by
 rw [List.take_add,List.drop_drop]
inductive FldR (P:Program) (n:Nat):Nat→List Field→(α:Type)→Rep α→Prop
 | one {off:Nat} {f:Field} {α:Type} [i:Rep α] (h1:f.offset=off) (h2:P.cellsOf f.type=Rep.size α) (h3:zde P f.type α n):FldR P n off [f] α i
 | cons {off:Nat} {f:Field} {fs:List Field} {α β:Type} [i:Rep α] [j:Rep β] (h1:f.offset=off) (h2:P.cellsOf f.type=Rep.size α) (h3:zde P f.type α n) (h4:FldR P n (off+Rep.size α) fs β j):FldR P n off (f :: fs) (α×β) inferInstance
theorem zoD {n:Nat} {H:Type} {enc:TypeId×Value→H} {w:World} {spare:Nat→Bool} {held:Bool} {cs:List Value} {off:Nat} {fs:List Field} {α:Type} {i:Rep α} (h:FldR P n off fs α i) :
   (∀ f∈fs,∃ y,DataW.trod enc P w 0 spare held n f.type ((cs.drop f.offset).take (P.cellsOf f.type))=some y)→cs.length=off+@Rep.size α i→∃ F x,@Rep.rep α i F w (cs.drop off) x:=by
 induction h with
 | @one off f α i h1 h2 h3=>
   intro hy hl
   obtain ⟨y,hf⟩:=hy f (by simp)
   subst h1
   rw [h2,List.take_of_length_le (by simp;omega)] at hf
   exact h3 _ _ _ _ _ _ _ hf
 | @cons off f fs α β i j h1 h2 h3 h4 ih=>
   intro hy hl
   obtain ⟨y,hf⟩:=hy f (by simp)
   have hl':cs.length=off+(Rep.size α+Rep.size β):=hl
   obtain ⟨F2,x2,hx2⟩:=ih (fun g hg=>hy g (by simp [hg])) (by omega)
   subst h1
   rw [h2] at hf
   obtain ⟨F1,x1,hx1⟩:=h3 _ _ _ _ _ _ _ hf
   refine ⟨F1++F2,(x1,x2),F1,F2,_,_,rfl,?_,hx1,hx2⟩
   have:=zg6 (cs:=cs) (o:=f.offset) (a:=Rep.size α) (b:=Rep.size β)
   rw [List.take_of_length_le (by simp;omega),List.take_of_length_le (l:=cs.drop (f.offset+Rep.size α)) (by simp;omega)] at this
   exact this
theorem zgt {fs:Array Field} {α:Type} [i:Rep α] {n:Nat} (ht:P.underlying t=some (.struct fs)) (hc:P.cellsOf t=Rep.size α) (hf:FldR P n 0 fs.toList α i):zde P t α (n+1):=by
 intro H enc w spare held cs y h
 obtain ⟨xs,m,hm,_,hlen,hxl,hx⟩:=DataW.trod_struct ht h
 obtain rfl:m=n:=by omega
 have:=zoD (enc:=enc) (w:=w) (spare:=spare) (held:=held) (cs:=cs) hf (fun f hf=>by
   obtain ⟨k,hk,hkf⟩:=List.getElem_of_mem hf
   have h1:fs[k]?=some f:=by rw [←hkf];simp
   have h2:=hx k f h1
   have hk':k<xs.length:=by rw [hxl];simpa using hk
   rw [List.getElem?_eq_getElem hk'] at h2
   exact ⟨_,h2⟩) (by rw [hlen,hc];simp)
 simpa using this
theorem zeU {α:Type} [Rep α]:zde P t α 0:=by intro H enc w spare held cs y h;simp [DataW.trod] at h
theorem zdg {e:TypeId} {α:Type} [Rep α] (ht:P.underlying t=some (.slice e)) (hc:P.cellsOf e=Rep.size α) (he:∀ n,zde P e α n):∀ n,zde P t (List α) n
 | 0=>zeU
 | n+1=>zg5 ht hc (he n)
theorem zeo {fs:Array Field} {α:Type} [i:Rep α] (ht:P.underlying t=some (.struct fs)) (hc:P.cellsOf t=Rep.size α) (hf:∀ n,FldR P n 0 fs.toList α i):∀ n,zde P t α n
 | 0=>zeU
 | n+1=>zgt ht hc (hf n)
theorem zm3 {H:Type} {enc:TypeId×Value→H} {w W:World} {r:Reach} {b0:Nat} {spare:Nat→Bool} {held:Bool} {v:Value} {d:DataW H} {p:List MemPlace} (ht:P.underlying t=some (.int .i64)) (hv:Value.okWide P W r b0 t v)
   (h:DataW.Trod enc P w 0 spare held t v d p):∃ x:Int,Is w v x:=by
 obtain ⟨s,rfl⟩:=WideShapes.okWide_int ht hv
 obtain ⟨n,hn⟩:=h
 obtain ⟨F,x,hx⟩:=zdf ht n H enc w spare held _ _ hn
 exact ⟨x,F,_,hx,rfl⟩
theorem zjt {fs:Array Field} {α:Type} [Rep α] {H:Type} {enc:TypeId×Value→H} {w W:World} {r:Reach} {b0:Nat} {spare:Nat→Bool} {held:Bool} {v:Value} {d:DataW H} {p:List MemPlace} (ht:P.underlying t=some (.struct fs)) (ha:Rep.agg α=true) (hr:∀ n,zde P t α n) (hv:Value.okWide P W r b0 t v)
   (h:DataW.Trod enc P w 0 spare held t v d p):∃ x:α,Is w v x:=by
 simp only [Value.okWide,ht] at hv
 obtain ⟨cs,rfl,_⟩:=hv
 obtain ⟨n,hn⟩:=h
 obtain ⟨F,x,hx⟩:=hr n H enc w spare held _ _ hn
 exact ⟨x,F,_,hx,by simp [mkv,ha,Value.cells]⟩
end
end Go.Sh
namespace Go.Sh
open Rep (rep)
inductive DTerm where
 | mk (kind num:Int) (name:ByteArray) (kids:List DTerm)
namespace DTerm
def kind:DTerm→Int | .mk k _ _ _=>k
def num:DTerm→Int | .mk _ n _ _=>n
def name:DTerm→ByteArray | .mk _ _ s _=>s
def kids:DTerm→List DTerm | .mk _ _ _ l=>l
def tup (t:DTerm):Int×Int×ByteArray×List DTerm:=(t.kind,t.num,t.name,t.kids)
end DTerm
theorem DTerm.eta (t:DTerm):DTerm.mk t.kind t.num t.name t.kids=t:=by cases t;rfl
theorem DTerm.ext_iff {x y:DTerm}:x=y↔(x.kind=y.kind∧x.num=y.num∧x.name=y.name∧x.kids=y.kids):=by
 constructor
 · intro h;rw [h];exact ⟨rfl,rfl,rfl,rfl⟩
 rintro ⟨h1,h2,h3,h4⟩
 rw [←DTerm.eta x,←DTerm.eta y,h1,h2,h3,h4]
theorem DTerm.kid_lt {t k:DTerm} (h:k∈t.kids):SizeOf.sizeOf k<SizeOf.sizeOf t:=by
 cases t with
 | mk a b c l=>
   have:k∈l:=h
   have:=List.sizeOf_lt_of_mem this
   simp only [DTerm.mk.sizeOf_spec];omega
theorem DTerm.ind {p:DTerm→Prop} (h:∀ t,(∀ k∈t.kids,p k)→p t) (t:DTerm):p t:=
  h t fun k hk=>DTerm.ind h k
termination_by SizeOf.sizeOf t
decreasing_by exact DTerm.kid_lt hk
mutual
def DTerm.beq:DTerm→DTerm→Bool
  | .mk a b c l,.mk a' b' c' l'=>decide (a=a')&&decide (b=b')&&decide (c=c')&&DTerm.beqL l l'
def DTerm.beqL:List DTerm→List DTerm→Bool
  | [],[]=>true
  | x :: l,y :: m=>DTerm.beq x y&&DTerm.beqL l m
  | _,_=>false
end
mutual
theorem DTerm.beq_iff:∀ (x y:DTerm),DTerm.beq x y=true↔x=y
  | .mk a b c l,.mk a' b' c' l'=>by
    simp only [DTerm.beq,Bool.and_eq_true,decide_eq_true_eq,DTerm.mk.injEq,DTerm.beqL_iff l l',and_assoc]
theorem DTerm.beqL_iff:∀ (x y:List DTerm),DTerm.beqL x y=true↔x=y
  | [],[]=>by simp [DTerm.beqL]
  | [],y :: m=>by simp [DTerm.beqL]
  | x :: l,[]=>by simp [DTerm.beqL]
  | x :: l,y :: m=>by simp only [DTerm.beqL,Bool.and_eq_true,DTerm.beq_iff x y,DTerm.beqL_iff l m,List.cons.injEq]
end
instance:DecidableEq DTerm:=fun x y=>decidable_of_iff _ (DTerm.beq_iff x y)
mutual
def zmb:DTerm→List Nat→World→List Value→Prop
  | .mk k n s ks,F,w,cs=>∃ a cap Fi xs,cs=[.int .i64 k,.int .i64 n,.string s,.slice a ks.length cap]∧I64 k∧I64 n∧s.size≤maxLen∧ks.length≤cap∧cap≤maxLen∧zdL ks Fi w xs ∧
    ((ks=[]∧F=[])∨∃ b o,a=some ⟨b,o,none⟩∧F=b :: Fi∧w.rangeAt b o xs∧b<w.heap.size)
def zdL:List DTerm→List Nat→World→List Value→Prop
  | [],F,_,xs=>F=[]∧xs=[]
  | y :: ys,F,w,xs=>∃ F1 F2 c1 c2,F=F1++F2∧xs=c1++c2∧zmb y F1 w c1∧zdL ys F2 w c2
end
theorem zoE {t:DTerm} {F:List Nat} {w:World} {cs:List Value} (h:zmb t F w cs):cs.length=4:=by
 cases t;rw [zmb] at h;obtain ⟨a,cap,Fi,xs,rfl,_⟩:=h;rfl
theorem zoF {t:DTerm} {F:List Nat} {w:World} {cs:List Value} (h:zmb t F w cs):∀ v∈cs,v.oneCell'=true:=by
 cases t;rw [zmb] at h;obtain ⟨a,cap,Fi,xs,rfl,_⟩:=h
 intro v hv
 simp only [List.mem_cons,List.not_mem_nil,or_false] at hv
 rcases hv with rfl | rfl | rfl | rfl<;>rfl
mutual
theorem zju:∀ (t:DTerm) {F:List Nat} {w w':World} {cs:List Value},zmb t F w cs→(∀ b∈F,w'.heap[b]?=w.heap[b]?)→zmb t F w' cs
  | .mk k n s ks,F,w,w',cs,h,hk=>by
    rw [zmb] at h ⊢
    obtain ⟨a,cap,Fi,xs,hcs,i1,i2,i3,h1,h2,hc,h4⟩:=h
    rcases h4 with ⟨rfl,rfl⟩ | ⟨b,o,ha,hF,hr,hb⟩
    · exact ⟨a,cap,Fi,xs,hcs,i1,i2,i3,h1,h2,by rw [zdL] at hc ⊢;exact hc,.inl ⟨rfl,rfl⟩⟩
    subst hF
    have hbb:=hk b (by simp)
    refine ⟨a,cap,Fi,xs,hcs,i1,i2,i3,h1,h2,zg7 ks hc fun c hc=>hk c (by simp [hc]),.inr ⟨b,o,ha,rfl,zcd hr hbb,?_⟩⟩
    rcases Nat.lt_or_ge b (Array.size (World.heap w')) with h' | h'
    · exact h'
    rw [Array.getElem?_eq_none h'] at hbb
    simp [Array.getElem?_eq_getElem hb] at hbb
theorem zg7:∀ (l:List DTerm) {F:List Nat} {w w':World} {cs:List Value},zdL l F w cs→(∀ b∈F,w'.heap[b]?=w.heap[b]?)→zdL l F w' cs
  | [],F,w,w',cs,h,_=>by rw [zdL] at h ⊢;exact h
  | y :: ys,F,w,w',cs,h,hk=>by
    rw [zdL] at h ⊢
    obtain ⟨F1,F2,c1,c2,rfl,rfl,h1,h2⟩:=h
    exact ⟨F1,F2,c1,c2,rfl,rfl,zju y h1 fun b hb=>hk b (by simp [hb]),zg7 ys h2 fun b hb=>hk b (by simp [hb])⟩
end
mutual
theorem zm4:∀ (t:DTerm) {F:List Nat} {w:World} {cs:List Value},zmb t F w cs→∀ b∈F,b<w.heap.size
  | .mk k n s ks,F,w,cs,h,c,hm=>by
    rw [zmb] at h
    obtain ⟨a,cap,Fi,xs,hcs,i1,i2,i3,h1,h2,hc,h4⟩:=h
    rcases h4 with ⟨rfl,rfl⟩ | ⟨b,o,ha,hF,hr,hb⟩
    · cases hm
    subst hF
    rcases List.mem_cons.1 hm with rfl | hm
    · exact hb
    exact zjv ks hc c hm
theorem zjv:∀ (l:List DTerm) {F:List Nat} {w:World} {cs:List Value},zdL l F w cs→∀ b∈F,b<w.heap.size
  | [],F,w,cs,h,c,hm=>by rw [zdL] at h;rw [h.1] at hm;cases hm
  | y :: ys,F,w,cs,h,c,hm=>by
    rw [zdL] at h
    obtain ⟨F1,F2,c1,c2,rfl,rfl,h1,h2⟩:=h
    rcases List.mem_append.1 hm with hm | hm
    · exact zm4 y h1 c hm
    exact zjv ys h2 c hm
end
instance:Rep DTerm where
 size:=4
 agg:=true
 rep F w cs x:=zmb x F w cs
 pos:=by decide
 sz h:=by cases h
 len h:=zoE h
 one h:=zoF h
 keep h hk:=zju _ h hk
 lt h:=zm4 _ h
theorem zfF {w:World}:∀ {l:List DTerm} {F:List Nat} {xs:List Value},zdL l F w xs↔Cells F w xs l
 | [],F,xs=>by rw [zdL];exact Iff.rfl
 | y :: ys,F,xs=>by
   rw [zdL]
   constructor
   · rintro ⟨F1,F2,c1,c2,h1,h2,h3,h4⟩;exact ⟨F1,F2,c1,c2,h1,h2,h3,zfF.1 h4⟩
   rintro ⟨F1,F2,c1,c2,h1,h2,h3,h4⟩;exact ⟨F1,F2,c1,c2,h1,h2,h3,zfF.2 h4⟩
theorem zfh {w:World} {F:List Nat} {cs:List Value} {t:DTerm}:rep F w cs t↔rep F w cs t.tup:=by
 obtain ⟨k,n,s,ks⟩:=t
 show zmb _ F w cs↔_
 rw [zmb]
 constructor
 · rintro ⟨a,cap,Fi,xs,rfl,i1,i2,i3,h1,h2,hc,h4⟩
   refine ⟨[],F,[.int .i64 k],_,rfl,rfl,⟨rfl,rfl,i1⟩,[],F,[.int .i64 n],_,rfl,rfl,⟨rfl,rfl,i2⟩,[],F,[.string s],_,rfl,rfl,⟨rfl,rfl,i3⟩,a,cap,Fi,xs,rfl,h1,h2,zfF.1 hc,h4⟩
 rintro ⟨_,_,_,_,rfl,rfl,⟨rfl,rfl,i1⟩,_,_,_,_,rfl,rfl,⟨rfl,rfl,i2⟩,_,_,_,_,rfl,rfl,⟨rfl,rfl,i3⟩,a,cap,Fi,xs,rfl,h1,h2,hc,h4⟩
 exact ⟨a,cap,Fi,xs,rfl,i1,i2,i3,h1,h2,zfF.2 hc,h4⟩
theorem zlo {w:World} {b o:Nat} {t:DTerm}:At w b o t↔At w b o t.tup:=
 ⟨fun ⟨F,cs,h,k⟩=>⟨F,cs,zfh.1 h,k⟩,fun ⟨F,cs,h,k⟩=>⟨F,cs,zfh.2 h,k⟩⟩
theorem zm5 {w:World} {G:List Nat} {b o:Nat} {t:DTerm}:OAt G w b o t↔OAt G w b o t.tup:=
 ⟨fun ⟨cs,h,k⟩=>⟨cs,zfh.1 h,k⟩,fun ⟨cs,h,k⟩=>⟨cs,zfh.2 h,k⟩⟩
section
variable {w:World} {b o:Nat}
theorem zbx {x:DTerm} (h:At w b o x):At w b (o+0) x.kind:=zcW (α:=Int) (β:=Int×ByteArray×List DTerm) (p:=x.tup) (zlo.1 h)
theorem zbn {x:DTerm} (h:At w b o x):At w b (o+1) x.num:=zcW (α:=Int) (β:=ByteArray×List DTerm) (p:=(x.num,x.name,x.kids)) (zbm (α:=Int) (β:=Int×ByteArray×List DTerm) (p:=x.tup) (zlo.1 h))
theorem za5 {x:DTerm} (h:At w b o x):At w b (o+2) x.name:=zcW (α:=ByteArray) (β:=List DTerm) (p:=(x.name,x.kids)) (zbm (α:=Int) (β:=ByteArray×List DTerm) (p:=(x.num,x.name,x.kids)) (zbm (α:=Int) (β:=Int×ByteArray×List DTerm) (p:=x.tup) (zlo.1 h)))
theorem zaF {x:DTerm} (h:At w b o x):At w b (o+3) x.kids:=zbm (α:=ByteArray) (β:=List DTerm) (p:=(x.name,x.kids)) (zbm (α:=Int) (β:=ByteArray×List DTerm) (p:=(x.num,x.name,x.kids)) (zbm (α:=Int) (β:=Int×ByteArray×List DTerm) (p:=x.tup) (zlo.1 h)))
end
theorem Lens.term {w:World} {γ:Type} {H:List Nat→World→γ→Prop} {F:List Nat} {b o:Nat} {G:List Nat} {t:DTerm} {upd:DTerm→γ} (h:Lens H F w b o G t upd) :
   Lens H F w b o G t.tup (fun p=>upd (.mk p.1 p.2.1 p.2.2.1 p.2.2.2)):=
 ⟨zm5.1 h.here,h.sub,fun w' G' y' hc hO hs=>h.back w' G' _ hc (zm5.2 hO) hs⟩
instance:RepZ DTerm:=⟨.mk 0 0 ByteArray.empty [],RepZ.zc (Int×Int×ByteArray×List DTerm),fun w=>zfh.2 (RepZ.zr (α:=Int×Int×ByteArray×List DTerm) w)⟩
section
variable {γ:Type} {H:List Nat→World→γ→Prop} {F:List Nat} {w:World} {b o:Nat} {G:List Nat} {x:DTerm} {upd:DTerm→γ}
theorem zeA (h:Lens H F w b o G x upd):∃ G1,Lens H F w b (o+0) G1 x.kind (fun y=>upd (.mk y x.num x.name x.kids)):=by
 obtain ⟨G1,h1⟩:=h.term.fst;exact ⟨G1,h1⟩
theorem zeB (h:Lens H F w b o G x upd):∃ G1,Lens H F w b (o+1) G1 x.num (fun y=>upd (.mk x.kind y x.name x.kids)):=by
 obtain ⟨G1,h1⟩:=h.term.snd;obtain ⟨G2,h2⟩:=h1.fst;exact ⟨G2,h2⟩
theorem zeC (h:Lens H F w b o G x upd):∃ G1,Lens H F w b (o+2) G1 x.name (fun y=>upd (.mk x.kind x.num y x.kids)):=by
 obtain ⟨G1,h1⟩:=h.term.snd;obtain ⟨G2,h2⟩:=h1.snd;obtain ⟨G3,h3⟩:=h2.fst;exact ⟨G3,h3⟩
theorem zeD (h:Lens H F w b o G x upd):∃ G1,Lens H F w b (o+3) G1 x.kids (fun y=>upd (.mk x.kind x.num x.name y)):=by
 obtain ⟨G1,h1⟩:=h.term.snd;obtain ⟨G2,h2⟩:=h1.snd;obtain ⟨G3,h3⟩:=h2.snd;exact ⟨G3,h3⟩
end
theorem zm6 {P:Program} {t:TypeId} {n:Nat} (h:zde P t (Int×Int×ByteArray×List DTerm) n):zde P t DTerm n:=by
 intro H enc w spare held cs y hh
 obtain ⟨F,x,hx⟩:=h H enc w spare held cs y hh
 exact ⟨F,.mk x.1 x.2.1 x.2.2.1 x.2.2.2,zfh.2 hx⟩
structure DIns where
 op:Int
 arg:Int
 term:DTerm
 to:Int
theorem DIns.ext_iff {x y:DIns}:x=y↔(x.op=y.op∧x.arg=y.arg∧x.term=y.term∧x.to=y.to):=⟨fun h=>by rw [h];exact ⟨rfl,rfl,rfl,rfl⟩,fun h=>by obtain ⟨h0,h1,h2,h3⟩:=h;cases x;cases y;simp only at h0 h1 h2 h3;simp only [h0,h1,h2,h3]⟩
instance:DecidableEq DIns:=fun x y=>decidable_of_iff (x.op=y.op∧x.arg=y.arg∧x.term=y.term∧x.to=y.to) DIns.ext_iff.symm
instance:Rep DIns:=Rep.via fun x=>(x.op,x.arg,x.term,x.to)
theorem zat {w:World} {b o:Nat} {x:DIns} (h:At w b o x):At w b (o+0) x.op:=zcW (α:=Int) (β:=Int×DTerm×Int) (p:=(x.op,x.arg,x.term,x.to)) h
theorem zaw {w:World} {b o:Nat} {x:DIns} (h:At w b o x):At w b (o+1) x.arg:=zcW (α:=Int) (β:=DTerm×Int) (p:=(x.arg,x.term,x.to)) (zbm (α:=Int) (β:=Int×DTerm×Int) (p:=(x.op,x.arg,x.term,x.to)) h)
theorem zbi {w:World} {b o:Nat} {x:DIns} (h:At w b o x):At w b (o+2) x.term:=zcW (α:=DTerm) (β:=Int) (p:=(x.term,x.to)) (zbm (α:=Int) (β:=DTerm×Int) (p:=(x.arg,x.term,x.to)) (zbm (α:=Int) (β:=Int×DTerm×Int) (p:=(x.op,x.arg,x.term,x.to)) h))
theorem zbj {w:World} {b o:Nat} {x:DIns} (h:At w b o x):At w b (o+6) x.to:=zbm (α:=DTerm) (β:=Int) (p:=(x.term,x.to)) (zbm (α:=Int) (β:=DTerm×Int) (p:=(x.arg,x.term,x.to)) (zbm (α:=Int) (β:=Int×DTerm×Int) (p:=(x.op,x.arg,x.term,x.to)) h))
instance:RepZ DIns:=⟨⟨(RepZ.zv:Int),(RepZ.zv:Int),(RepZ.zv:DTerm),(RepZ.zv:Int)⟩,RepZ.zc (Int×Int×DTerm×Int),fun w=>RepZ.zr (α:=Int×Int×DTerm×Int) w⟩
theorem zg8 {γ:Type} {H:List Nat→World→γ→Prop} {F:List Nat} {w:World} {b o:Nat} {G:List Nat} {x:DIns} {upd:DIns→γ} (h:Lens H F w b o G x upd) :
   ∃ G1,Lens H F w b (o+0) G1 x.op (fun y=>upd ⟨y,x.arg,x.term,x.to⟩):=by
 have h':Lens H F w b o G (x.op,x.arg,x.term,x.to) (fun p:Int×Int×DTerm×Int=>upd ⟨p.1,p.2.1,p.2.2.1,p.2.2.2⟩):=⟨h.here,h.sub,fun w' G' y' hc hO hs=>h.back w' G' _ hc hO hs⟩
 obtain ⟨G0,h'⟩:=h'.fst
 exact ⟨_,h'⟩
theorem zg9 {γ:Type} {H:List Nat→World→γ→Prop} {F:List Nat} {w:World} {b o:Nat} {G:List Nat} {x:DIns} {upd:DIns→γ} (h:Lens H F w b o G x upd) :
   ∃ G1,Lens H F w b (o+1) G1 x.arg (fun y=>upd ⟨x.op,y,x.term,x.to⟩):=by
 have h':Lens H F w b o G (x.op,x.arg,x.term,x.to) (fun p:Int×Int×DTerm×Int=>upd ⟨p.1,p.2.1,p.2.2.1,p.2.2.2⟩):=⟨h.here,h.sub,fun w' G' y' hc hO hs=>h.back w' G' _ hc hO hs⟩
 obtain ⟨G0,h'⟩:=h'.snd
 obtain ⟨G1,h'⟩:=h'.fst
 exact ⟨_,h'⟩
theorem zdh {γ:Type} {H:List Nat→World→γ→Prop} {F:List Nat} {w:World} {b o:Nat} {G:List Nat} {x:DIns} {upd:DIns→γ} (h:Lens H F w b o G x upd) :
   ∃ G1,Lens H F w b (o+2) G1 x.term (fun y=>upd ⟨x.op,x.arg,y,x.to⟩):=by
 have h':Lens H F w b o G (x.op,x.arg,x.term,x.to) (fun p:Int×Int×DTerm×Int=>upd ⟨p.1,p.2.1,p.2.2.1,p.2.2.2⟩):=⟨h.here,h.sub,fun w' G' y' hc hO hs=>h.back w' G' _ hc hO hs⟩
 obtain ⟨G0,h'⟩:=h'.snd
 obtain ⟨G1,h'⟩:=h'.snd
 obtain ⟨G2,h'⟩:=h'.fst
 exact ⟨_,h'⟩
theorem zha {γ:Type} {H:List Nat→World→γ→Prop} {F:List Nat} {w:World} {b o:Nat} {G:List Nat} {x:DIns} {upd:DIns→γ} (h:Lens H F w b o G x upd) :
   ∃ G1,Lens H F w b (o+6) G1 x.to (fun y=>upd ⟨x.op,x.arg,x.term,y⟩):=by
 have h':Lens H F w b o G (x.op,x.arg,x.term,x.to) (fun p:Int×Int×DTerm×Int=>upd ⟨p.1,p.2.1,p.2.2.1,p.2.2.2⟩):=⟨h.here,h.sub,fun w' G' y' hc hO hs=>h.back w' G' _ hc hO hs⟩
 obtain ⟨G0,h'⟩:=h'.snd
 obtain ⟨G1,h'⟩:=h'.snd
 obtain ⟨G2,h'⟩:=h'.snd
 exact ⟨_,h'⟩
structure DCode where
 globals:List ByteArray
 locks:List ByteArray
 procs:List ByteArray
 entry:List Int
 ins:List DIns
theorem DCode.ext_iff {x y:DCode}:x=y↔(x.globals=y.globals∧x.locks=y.locks∧x.procs=y.procs∧x.entry=y.entry∧x.ins=y.ins):=⟨fun h=>by rw [h];exact ⟨rfl,rfl,rfl,rfl,rfl⟩,fun h=>by obtain ⟨h0,h1,h2,h3,h4⟩:=h;cases x;cases y;simp only at h0 h1 h2 h3 h4;simp only [h0,h1,h2,h3,h4]⟩
instance:DecidableEq DCode:=fun x y=>decidable_of_iff (x.globals=y.globals∧x.locks=y.locks∧x.procs=y.procs∧x.entry=y.entry∧x.ins=y.ins) DCode.ext_iff.symm
instance:Rep DCode:=Rep.via fun x=>(x.globals,x.locks,x.procs,x.entry,x.ins)
theorem za2 {w:World} {b o:Nat} {x:DCode} (h:At w b o x):At w b (o+0) x.globals:=zcW (α:=List ByteArray) (β:=(List ByteArray)×(List ByteArray)×(List Int)×(List DIns)) (p:=(x.globals,x.locks,x.procs,x.entry,x.ins)) h
theorem zby {w:World} {b o:Nat} {x:DCode} (h:At w b o x):At w b (o+1) x.locks:=zcW (α:=List ByteArray) (β:=(List ByteArray)×(List Int)×(List DIns)) (p:=(x.locks,x.procs,x.entry,x.ins)) (zbm (α:=List ByteArray) (β:=(List ByteArray)×(List ByteArray)×(List Int)×(List DIns)) (p:=(x.globals,x.locks,x.procs,x.entry,x.ins)) h)
theorem zap {w:World} {b o:Nat} {x:DCode} (h:At w b o x):At w b (o+2) x.procs:=zcW (α:=List ByteArray) (β:=(List Int)×(List DIns)) (p:=(x.procs,x.entry,x.ins)) (zbm (α:=List ByteArray) (β:=(List ByteArray)×(List Int)×(List DIns)) (p:=(x.locks,x.procs,x.entry,x.ins)) (zbm (α:=List ByteArray) (β:=(List ByteArray)×(List ByteArray)×(List Int)×(List DIns)) (p:=(x.globals,x.locks,x.procs,x.entry,x.ins)) h))
theorem zam {w:World} {b o:Nat} {x:DCode} (h:At w b o x):At w b (o+3) x.entry:=zcW (α:=List Int) (β:=(List DIns)) (p:=(x.entry,x.ins)) (zbm (α:=List ByteArray) (β:=(List Int)×(List DIns)) (p:=(x.procs,x.entry,x.ins)) (zbm (α:=List ByteArray) (β:=(List ByteArray)×(List Int)×(List DIns)) (p:=(x.locks,x.procs,x.entry,x.ins)) (zbm (α:=List ByteArray) (β:=(List ByteArray)×(List ByteArray)×(List Int)×(List DIns)) (p:=(x.globals,x.locks,x.procs,x.entry,x.ins)) h)))
theorem zai {w:World} {b o:Nat} {x:DCode} (h:At w b o x):At w b (o+4) x.ins:=zbm (α:=List Int) (β:=(List DIns)) (p:=(x.entry,x.ins)) (zbm (α:=List ByteArray) (β:=(List Int)×(List DIns)) (p:=(x.procs,x.entry,x.ins)) (zbm (α:=List ByteArray) (β:=(List ByteArray)×(List Int)×(List DIns)) (p:=(x.locks,x.procs,x.entry,x.ins)) (zbm (α:=List ByteArray) (β:=(List ByteArray)×(List ByteArray)×(List Int)×(List DIns)) (p:=(x.globals,x.locks,x.procs,x.entry,x.ins)) h)))
instance:RepZ DCode:=⟨⟨(RepZ.zv:List ByteArray),(RepZ.zv:List ByteArray),(RepZ.zv:List ByteArray),(RepZ.zv:List Int),(RepZ.zv:List DIns)⟩,RepZ.zc ((List ByteArray)×(List ByteArray)×(List ByteArray)×(List Int)×(List DIns)),fun w=>RepZ.zr (α:=(List ByteArray)×(List ByteArray)×(List ByteArray)×(List Int)×(List DIns)) w⟩
theorem zjw {γ:Type} {H:List Nat→World→γ→Prop} {F:List Nat} {w:World} {b o:Nat} {G:List Nat} {x:DCode} {upd:DCode→γ} (h:Lens H F w b o G x upd) :
   ∃ G1,Lens H F w b (o+0) G1 x.globals (fun y=>upd ⟨y,x.locks,x.procs,x.entry,x.ins⟩):=by
 have h':Lens H F w b o G (x.globals,x.locks,x.procs,x.entry,x.ins) (fun p:(List ByteArray)×(List ByteArray)×(List ByteArray)×(List Int)×(List DIns)=>upd ⟨p.1,p.2.1,p.2.2.1,p.2.2.2.1,p.2.2.2.2⟩):=⟨h.here,h.sub,fun w' G' y' hc hO hs=>h.back w' G' _ hc hO hs⟩
 obtain ⟨G0,h'⟩:=h'.fst
 exact ⟨_,h'⟩
theorem zjx {γ:Type} {H:List Nat→World→γ→Prop} {F:List Nat} {w:World} {b o:Nat} {G:List Nat} {x:DCode} {upd:DCode→γ} (h:Lens H F w b o G x upd) :
   ∃ G1,Lens H F w b (o+1) G1 x.locks (fun y=>upd ⟨x.globals,y,x.procs,x.entry,x.ins⟩):=by
 have h':Lens H F w b o G (x.globals,x.locks,x.procs,x.entry,x.ins) (fun p:(List ByteArray)×(List ByteArray)×(List ByteArray)×(List Int)×(List DIns)=>upd ⟨p.1,p.2.1,p.2.2.1,p.2.2.2.1,p.2.2.2.2⟩):=⟨h.here,h.sub,fun w' G' y' hc hO hs=>h.back w' G' _ hc hO hs⟩
 obtain ⟨G0,h'⟩:=h'.snd
 obtain ⟨G1,h'⟩:=h'.fst
 exact ⟨_,h'⟩
theorem zjy {γ:Type} {H:List Nat→World→γ→Prop} {F:List Nat} {w:World} {b o:Nat} {G:List Nat} {x:DCode} {upd:DCode→γ} (h:Lens H F w b o G x upd) :
   ∃ G1,Lens H F w b (o+2) G1 x.procs (fun y=>upd ⟨x.globals,x.locks,y,x.entry,x.ins⟩):=by
 have h':Lens H F w b o G (x.globals,x.locks,x.procs,x.entry,x.ins) (fun p:(List ByteArray)×(List ByteArray)×(List ByteArray)×(List Int)×(List DIns)=>upd ⟨p.1,p.2.1,p.2.2.1,p.2.2.2.1,p.2.2.2.2⟩):=⟨h.here,h.sub,fun w' G' y' hc hO hs=>h.back w' G' _ hc hO hs⟩
 obtain ⟨G0,h'⟩:=h'.snd
 obtain ⟨G1,h'⟩:=h'.snd
 obtain ⟨G2,h'⟩:=h'.fst
 exact ⟨_,h'⟩
theorem zjz {γ:Type} {H:List Nat→World→γ→Prop} {F:List Nat} {w:World} {b o:Nat} {G:List Nat} {x:DCode} {upd:DCode→γ} (h:Lens H F w b o G x upd) :
   ∃ G1,Lens H F w b (o+3) G1 x.entry (fun y=>upd ⟨x.globals,x.locks,x.procs,y,x.ins⟩):=by
 have h':Lens H F w b o G (x.globals,x.locks,x.procs,x.entry,x.ins) (fun p:(List ByteArray)×(List ByteArray)×(List ByteArray)×(List Int)×(List DIns)=>upd ⟨p.1,p.2.1,p.2.2.1,p.2.2.2.1,p.2.2.2.2⟩):=⟨h.here,h.sub,fun w' G' y' hc hO hs=>h.back w' G' _ hc hO hs⟩
 obtain ⟨G0,h'⟩:=h'.snd
 obtain ⟨G1,h'⟩:=h'.snd
 obtain ⟨G2,h'⟩:=h'.snd
 obtain ⟨G3,h'⟩:=h'.fst
 exact ⟨_,h'⟩
theorem zjA {γ:Type} {H:List Nat→World→γ→Prop} {F:List Nat} {w:World} {b o:Nat} {G:List Nat} {x:DCode} {upd:DCode→γ} (h:Lens H F w b o G x upd) :
   ∃ G1,Lens H F w b (o+4) G1 x.ins (fun y=>upd ⟨x.globals,x.locks,x.procs,x.entry,y⟩):=by
 have h':Lens H F w b o G (x.globals,x.locks,x.procs,x.entry,x.ins) (fun p:(List ByteArray)×(List ByteArray)×(List ByteArray)×(List Int)×(List DIns)=>upd ⟨p.1,p.2.1,p.2.2.1,p.2.2.2.1,p.2.2.2.2⟩):=⟨h.here,h.sub,fun w' G' y' hc hO hs=>h.back w' G' _ hc hO hs⟩
 obtain ⟨G0,h'⟩:=h'.snd
 obtain ⟨G1,h'⟩:=h'.snd
 obtain ⟨G2,h'⟩:=h'.snd
 obtain ⟨G3,h'⟩:=h'.snd
 exact ⟨_,h'⟩
theorem zhb {w:World} {F:List Nat} {cs:List Value} {x:DCode} (h:rep F w cs x):∃ F0 c0 F1 c1 F2 c2 F3 c3 F4 c4,F=(F0++(F1++(F2++(F3++F4))))∧cs=(c0++(c1++(c2++(c3++c4))))∧rep F0 w c0 x.globals∧rep F1 w c1 x.locks∧rep F2 w c2 x.procs∧rep F3 w c3 x.entry∧rep F4 w c4 x.ins:=by
 obtain ⟨F0,G0,c0,d0,rfl,rfl,h0,h⟩:=h
 obtain ⟨F1,G1,c1,d1,rfl,rfl,h1,h⟩:=h
 obtain ⟨F2,G2,c2,d2,rfl,rfl,h2,h⟩:=h
 obtain ⟨F3,G3,c3,d3,rfl,rfl,h3,h⟩:=h
 exact ⟨_,_,_,_,_,_,_,_,_,_,rfl,rfl,h0,h1,h2,h3,h⟩
structure DTouch where
 at_:Int
 global:Int
 write:Bool
 held:Int
theorem DTouch.ext_iff {x y:DTouch}:x=y↔(x.at_=y.at_∧x.global=y.global∧x.write=y.write∧x.held=y.held):=⟨fun h=>by rw [h];exact ⟨rfl,rfl,rfl,rfl⟩,fun h=>by obtain ⟨h0,h1,h2,h3⟩:=h;cases x;cases y;simp only at h0 h1 h2 h3;simp only [h0,h1,h2,h3]⟩
instance:DecidableEq DTouch:=fun x y=>decidable_of_iff (x.at_=y.at_∧x.global=y.global∧x.write=y.write∧x.held=y.held) DTouch.ext_iff.symm
instance:Rep DTouch:=Rep.via fun x=>(x.at_,x.global,x.write,x.held)
theorem zbA {w:World} {b o:Nat} {x:DTouch} (h:At w b o x):At w b (o+0) x.at_:=zcW (α:=Int) (β:=Int×Bool×Int) (p:=(x.at_,x.global,x.write,x.held)) h
theorem zcu {w:World} {b o:Nat} {x:DTouch} (h:At w b o x):At w b (o+1) x.global:=zcW (α:=Int) (β:=Bool×Int) (p:=(x.global,x.write,x.held)) (zbm (α:=Int) (β:=Int×Bool×Int) (p:=(x.at_,x.global,x.write,x.held)) h)
theorem zd6 {w:World} {b o:Nat} {x:DTouch} (h:At w b o x):At w b (o+2) x.write:=zcW (α:=Bool) (β:=Int) (p:=(x.write,x.held)) (zbm (α:=Int) (β:=Bool×Int) (p:=(x.global,x.write,x.held)) (zbm (α:=Int) (β:=Int×Bool×Int) (p:=(x.at_,x.global,x.write,x.held)) h))
theorem zcv {w:World} {b o:Nat} {x:DTouch} (h:At w b o x):At w b (o+3) x.held:=zbm (α:=Bool) (β:=Int) (p:=(x.write,x.held)) (zbm (α:=Int) (β:=Bool×Int) (p:=(x.global,x.write,x.held)) (zbm (α:=Int) (β:=Int×Bool×Int) (p:=(x.at_,x.global,x.write,x.held)) h))
instance:RepZ DTouch:=⟨⟨(RepZ.zv:Int),(RepZ.zv:Int),(RepZ.zv:Bool),(RepZ.zv:Int)⟩,RepZ.zc (Int×Int×Bool×Int),fun w=>RepZ.zr (α:=Int×Int×Bool×Int) w⟩
theorem zm7 {w:World} {x:DTouch} (h_at_:I64 x.at_) (h_global:I64 x.global)  (h_held:I64 x.held):Mine [] w (.agg #[.int .i64 x.at_,.int .i64 x.global,.bool x.write,.int .i64 x.held]) x:=⟨⟨[.int .i64 x.at_,.int .i64 x.global,.bool x.write,.int .i64 x.held],⟨[],[],[.int .i64 x.at_],[.int .i64 x.global,.bool x.write,.int .i64 x.held],rfl,rfl,⟨rfl,rfl,h_at_⟩,⟨[],[],[.int .i64 x.global],[.bool x.write,.int .i64 x.held],rfl,rfl,⟨rfl,rfl,h_global⟩,⟨[],[],[.bool x.write],[.int .i64 x.held],rfl,rfl,⟨rfl,rfl⟩,⟨rfl,rfl,h_held⟩⟩⟩⟩,rfl⟩,List.nodup_nil,Wr.nil w⟩
instance:Flat DTouch:=⟨fun h=>Flat.flat (α:=Int×Int×Bool×Int) h⟩
end Go.Sh
namespace Go.Proofs.YtifonhplnmpgaaaGreat
open Go Go.Sh Go.Proofs
open Rep (rep)
def zjb (b:UInt8):Bool:=decide ((97:Int)≤(b.toNat:Int)∧(b.toNat:Int)≤122)
def zmc (b:UInt8):Bool:=decide ((48:Int)≤(b.toNat:Int)∧(b.toNat:Int)≤57)
def zgC (s:ByteArray):Bool:=decide (s.size≤12)&&(bts s).head?.any zjb&&(bts s).all (fun b=>zjb b || zmc b)
def kw:List ByteArray:=[.mk #[97,110,100],.mk #[99,97,108,108],.mk #[101,108,115,101],.mk #[103,108,111,98,97,108,115],.mk #[105,102],.mk #[108,111,99,107],.mk #[108,111,99,107,115],
 .mk #[110,111,116],.mk #[112,114,111,99],.mk #[115,107,105,112],.mk #[115,112,97,119,110],.mk #[117,110,108,111,99,107],.mk #[119,104,105,108,101]]
def zbr (s:ByteArray):Bool:=zgC s&&!decide (s∈kw)
def F253 (a0:Value) (w:World) (R:VW):Prop:=
 rB .geq 5 T0 U0 a0 (Value.int .u8 97) w fun x4=>
 BR x4
 (rB .leq 5 T0 U0 a0 (Value.int .u8 122) w fun x7=>
 R x7 w)
 (R (Value.bool false) w)
def cfg253:Cfg:=⟨extL,[],[],[],[],[],[]⟩
theorem F253_call {a0:Value} {w:World} {R:VW} (h:F253 a0 w R):cL 253 [a0] w R:=co (g:=cfg253) Tryz.func253 (by kernel_rfl) (by kernel_rfl) (by kernel_rfl) h
theorem zhX {w:World} {n:Nat}    :
   CALL Tryz.prog 253 [.int .u8 (n:Int)] w fun r w'=>Ext w w'∧(r=.bool (decide ((97:Int)≤(n:Int)∧(n:Int)≤122))):=by
 refine F253_call ?_
 unfold F253
 refine zci ?_
 refine br (fun c1=>?_) (fun c1=>?_)
 · refine zcU ?_
   refine ⟨Ext.refl w,?_⟩
   simp [c1]
 refine ⟨Ext.refl w,?_⟩
 simp [c1]
def F254 (a0:Value) (w:World) (R:VW):Prop:=
 rB .geq 5 T0 U0 a0 (Value.int .u8 48) w fun x4=>
 BR x4
 (rB .leq 5 T0 U0 a0 (Value.int .u8 57) w fun x7=>
 R x7 w)
 (R (Value.bool false) w)
def cfg254:Cfg:=⟨extL,[],[],[],[],[],[]⟩
theorem F254_call {a0:Value} {w:World} {R:VW} (h:F254 a0 w R):cL 254 [a0] w R:=co (g:=cfg254) Tryz.func254 (by kernel_rfl) (by kernel_rfl) (by kernel_rfl) h
theorem zkr {w:World} {n:Nat}    :
   CALL Tryz.prog 254 [.int .u8 (n:Int)] w fun r w'=>Ext w w'∧(r=.bool (decide ((48:Int)≤(n:Int)∧(n:Int)≤57))):=by
 refine F254_call ?_
 unfold F254
 refine zci ?_
 refine br (fun c1=>?_) (fun c1=>?_)
 · refine zcU ?_
   refine ⟨Ext.refl w,?_⟩
   simp [c1]
 refine ⟨Ext.refl w,?_⟩
 simp [c1]
def F251 (a0:Value) (w:World) (R:VW):Prop:=
 rB .geq 5 T0 U0 a0 (Value.int .u8 97) w fun x4=>
 BR x4
 (rB .leq 5 T0 U0 a0 (Value.int .u8 122) w fun x7=>
 R x7 w)
 (R (Value.bool false) w)
def cfg251:Cfg:=⟨extL,[],[],[],[],[],[]⟩
theorem F251_call {a0:Value} {w:World} {R:VW} (h:F251 a0 w R):cL 251 [a0] w R:=co (g:=cfg251) Tryz.func251 (by kernel_rfl) (by kernel_rfl) (by kernel_rfl) h
theorem zgu {w:World} {n:Nat}    :
   CALL Tryz.prog 251 [.int .u8 (n:Int)] w fun r w'=>Ext w w'∧(r=.bool (decide ((97:Int)≤(n:Int)∧(n:Int)≤122))):=by
 refine F251_call ?_
 unfold F251
 refine zci ?_
 refine br (fun c1=>?_) (fun c1=>?_)
 · refine zcU ?_
   refine ⟨Ext.refl w,?_⟩
   simp [c1]
 refine ⟨Ext.refl w,?_⟩
 simp [c1]
def F252 (a0:Value) (w:World) (R:VW):Prop:=
 rB .geq 5 T0 U0 a0 (Value.int .u8 48) w fun x4=>
 BR x4
 (rB .leq 5 T0 U0 a0 (Value.int .u8 57) w fun x7=>
 R x7 w)
 (R (Value.bool false) w)
def cfg252:Cfg:=⟨extL,[],[],[],[],[],[]⟩
theorem F252_call {a0:Value} {w:World} {R:VW} (h:F252 a0 w R):cL 252 [a0] w R:=co (g:=cfg252) Tryz.func252 (by kernel_rfl) (by kernel_rfl) (by kernel_rfl) h
theorem zjB {w:World} {n:Nat}    :
   CALL Tryz.prog 252 [.int .u8 (n:Int)] w fun r w'=>Ext w w'∧(r=.bool (decide ((48:Int)≤(n:Int)∧(n:Int)≤57))):=by
 refine F252_call ?_
 unfold F252
 refine zci ?_
 refine br (fun c1=>?_) (fun c1=>?_)
 · refine zcU ?_
   refine ⟨Ext.refl w,?_⟩
   simp [c1]
 refine ⟨Ext.refl w,?_⟩
 simp [c1]
theorem zlp {s:ByteArray} (h:0<s.size):(bts s).head?=some ((bts s)[0]'(by rw [zbw];exact h)):=by
 rw [List.head?_eq_getElem?,List.getElem?_eq_getElem (by rw [zbw];exact h)]
theorem zhY {s:ByteArray} (h:s.size=0):zgC s=false:=by
 have:bts s=[]:=List.eq_nil_of_length_eq_zero (by rw [zbw];exact h)
 simp [zgC,this]
theorem zjC {s:ByteArray} (h:12<s.size):zgC s=false:=by
 simp [zgC,Nat.not_le.2 h]
theorem zjD {s:ByteArray} (h:0<s.size) (c:¬((97:Int)≤(((bts s)[0]'(by rw [zbw];exact h)).toNat:Int)∧(((bts s)[0]'(by rw [zbw];exact h)).toNat:Int)≤122)):zgC s=false:=by
 have:zjb ((bts s)[0]'(by rw [zbw];exact h))=false:=by simp only [zjb,c,decide_false]
 simp [zgC,zlp h,this]
theorem zm8 {s:ByteArray} {k:Nat} (h:k<s.size) (c1:¬((97:Int)≤(((bts s)[k]'(by rw [zbw];exact h)).toNat:Int)∧(((bts s)[k]'(by rw [zbw];exact h)).toNat:Int)≤122))
   (c2:¬((48:Int)≤(((bts s)[k]'(by rw [zbw];exact h)).toNat:Int)∧(((bts s)[k]'(by rw [zbw];exact h)).toNat:Int)≤57)):zgC s=false:=by
 have h1:zjb ((bts s)[k]'(by rw [zbw];exact h))=false:=by simp only [zjb,c1,decide_false]
 have h2:zmc ((bts s)[k]'(by rw [zbw];exact h))=false:=by simp only [zmc,c2,decide_false]
 have:(bts s).all (fun b=>zjb b || zmc b)=false:=by
   rw [List.all_eq_false]
   exact ⟨_,List.getElem_mem (by rw [zbw];exact h),by simp [h1,h2]⟩
 simp [zgC,this]
theorem zfG {s:ByteArray} {k:Nat} (h:k<s.size) (hi:∀ b∈(bts s).take k,(zjb b || zmc b)=true) (c:zjb ((bts s)[k]'(by rw [zbw];exact h))=true∨zmc ((bts s)[k]'(by rw [zbw];exact h))=true) :
   ∀ b∈(bts s).take (k+1),(zjb b || zmc b)=true:=by
 rw [List.take_succ_eq_append_getElem (by rw [zbw];exact h)]
 intro b hb
 rcases List.mem_append.1 hb with hb | hb
 · exact hi b hb
 simp only [List.mem_cons,List.not_mem_nil,or_false] at hb
 subst hb
 simpa using c
theorem zlq {s:ByteArray} {k:Nat} (h0:0<s.size) (h1:s.size≤12) (c:(97:Int)≤(((bts s)[0]'(by rw [zbw];exact h0)).toNat:Int)∧(((bts s)[0]'(by rw [zbw];exact h0)).toNat:Int)≤122) (hk:s.size≤k)
   (hi:∀ b∈(bts s).take k,(zjb b || zmc b)=true):zgC s=true:=by
 rw [List.take_of_length_le (by rw [zbw];exact hk)] at hi
 have e1:zjb ((bts s)[0]'(by rw [zbw];exact h0))=true:=by simp only [zjb,c,and_self,decide_true]
 have e2:(bts s).all (fun b=>zjb b || zmc b)=true:=List.all_eq_true.2 hi
 simp [zgC,zlp h0,e1,e2,h1]
def F221 (a0:Value) (w:World) (R:VW):Prop:=
 rN 9 3 a0 w fun x5=>
 rB .eql 3 T0 U0 x5 (iV 0) w fun x6=>
 BR x6
 (R (Value.bool false) w)
 (rN 9 3 a0 w fun x9=>
 rB .gtr 3 T0 U0 x9 (iV 12) w fun x10=>
 BR x10
 (R (Value.bool false) w)
 (rD (Instr.index 9 a0 (iV 0)) w fun x14=>
 cL 251 [x14] w fun x15 w=>
 rD (Op.unary .not x15) w fun x16=>
 BR x16
 (R (Value.bool false) w)
 (LOOPI [3] [(iV 0)] w fun u4 w next4=>
 rN 9 3 a0 w fun x20=>
 rC (u4 3) x20 w fun x21=>
 BR x21
 (rD (Instr.index 9 a0 (u4 3)) w fun x26=>
 cL 251 [x26] w fun x27 w=>
 rD (Op.unary .not x27) w fun x28=>
 BR x28
 (rD (Instr.index 9 a0 (u4 3)) w fun x32=>
 cL 252 [x32] w fun x33 w=>
 rD (Op.unary .not x33) w fun x34=>
 BR x34
 (R (Value.bool false) w)
 (rA (u4 3) (iV 1) w fun x23=>
 next4 [x23] w))
 (rA (u4 3) (iV 1) w fun x23=>
 next4 [x23] w))
 (R (Value.bool true) w))))
def cfg221:Cfg:=⟨extL,[],[(4,68719214604,[3])],[],[],[],[]⟩
theorem F221_call {a0:Value} {w:World} {R:VW} (h:F221 a0 w R):cL 221 [a0] w R:=co (g:=cfg221) Tryz.func221 (by kernel_rfl) (by kernel_rfl) (by kernel_rfl) h
theorem zmd {w:World} {s:ByteArray}    :
   CALL Tryz.prog 221 [.string s] w fun r w'=>Ext w w'∧(r=.bool (zgC s)):=by
 refine F221_call ?_
 unfold F221
 refine zex u9 ?_
 refine zaq ?_
 refine br (fun c1=>?_) (fun c1=>?_)
 · refine ⟨Ext.refl w,?_⟩
   rw [zhY (by omega)]
 refine zex u9 ?_
 refine zdI ?_
 refine br (fun c2=>?_) (fun c2=>?_)
 · refine ⟨Ext.refl w,?_⟩
   rw [zjC (by omega)]
 refine zdJ (i:=0) u9 (by omega) ?_
 refine (zgu ).mono ?_
 rintro _ w1_ ⟨hx1_,rfl⟩
 refine zaA ?_
 refine br (fun c3=>?_) (fun c3=>?_)
 · refine ⟨hx1_,?_⟩
   rw [zjD (by omega) c3]
 refine zas (s.size) (fun k us w'=>us=[.int .i64 (k:Int)]∧Ext w1_ w'∧(∀ b∈(bts s).take k,(zjb b || zmc b)=true)) (0) (by omega) ⟨by simp,Ext.refl w1_,by simp⟩ ?_
 rintro k m4 uu4 w2_ hk4 ⟨hu,hx2_,hinv⟩
 simp only [List.map_cons,List.map_nil,List.cons.injEq,and_true] at hu
 try rw [hu]
 try clear hu
 refine zex u9 ?_
 refine zah ?_
 refine br (fun c4=>?_) (fun c4=>?_)
 · refine zdJ u9 (by omega) ?_
   refine (zgu ).mono ?_
   rintro _ w3_ ⟨hx3_,rfl⟩
   refine zaA ?_
   refine br (fun c5=>?_) (fun c5=>?_)
   · refine zdJ u9 (by omega) ?_
     refine (zjB ).mono ?_
     rintro _ w4_ ⟨hx4_,rfl⟩
     refine zaA ?_
     refine br (fun c6=>?_) (fun c6=>?_)
     · refine ⟨(hx1_.trans (hx2_.trans (hx3_.trans hx4_))),?_⟩
       rw [zm8 (by omega) c5 c6]
     refine zag (by omega) ?_
     refine ⟨m4-1,by omega,k+1,by omega,by simp,(hx2_.trans (hx3_.trans hx4_)),?_⟩
     exact zfG (by omega) hinv (.inr (by simp only [zmc,Decidable.not_not.1 c6,and_self,decide_true]))
   refine zag (by omega) ?_
   refine ⟨m4-1,by omega,k+1,by omega,by simp,(hx2_.trans hx3_),?_⟩
   exact zfG (by omega) hinv (.inl (by simp only [zjb,Decidable.not_not.1 c5,and_self,decide_true]))
 refine ⟨(hx1_.trans hx2_),?_⟩
 rw [zlq (by omega) (by omega) (Decidable.not_not.1 c3) (by omega) hinv]
def F173 (a0:Value) (w:World) (R:VW):Prop:=
 rB .eql 9 T0 U0 a0 (Value.string (ByteArray.mk #[97,110,100])) w fun x5=>
 BR x5
 (R (Value.bool false) w)
 (rB .eql 9 T0 U0 a0 (Value.string (ByteArray.mk #[99,97,108,108])) w fun x6=>
 BR x6
 (R (Value.bool false) w)
 (rB .eql 9 T0 U0 a0 (Value.string (ByteArray.mk #[101,108,115,101])) w fun x7=>
 BR x7
 (R (Value.bool false) w)
 (rB .eql 9 T0 U0 a0 (Value.string (ByteArray.mk #[103,108,111,98,97,108,115])) w fun x8=>
 BR x8
 (R (Value.bool false) w)
 (rB .eql 9 T0 U0 a0 (Value.string (ByteArray.mk #[105,102])) w fun x9=>
 BR x9
 (R (Value.bool false) w)
 (rB .eql 9 T0 U0 a0 (Value.string (ByteArray.mk #[108,111,99,107])) w fun x10=>
 BR x10
 (R (Value.bool false) w)
 (rB .eql 9 T0 U0 a0 (Value.string (ByteArray.mk #[108,111,99,107,115])) w fun x11=>
 BR x11
 (R (Value.bool false) w)
 (rB .eql 9 T0 U0 a0 (Value.string (ByteArray.mk #[110,111,116])) w fun x12=>
 BR x12
 (R (Value.bool false) w)
 (rB .eql 9 T0 U0 a0 (Value.string (ByteArray.mk #[112,114,111,99])) w fun x13=>
 BR x13
 (R (Value.bool false) w)
 (rB .eql 9 T0 U0 a0 (Value.string (ByteArray.mk #[115,107,105,112])) w fun x14=>
 BR x14
 (R (Value.bool false) w)
 (rB .eql 9 T0 U0 a0 (Value.string (ByteArray.mk #[115,112,97,119,110])) w fun x15=>
 BR x15
 (R (Value.bool false) w)
 (rB .eql 9 T0 U0 a0 (Value.string (ByteArray.mk #[117,110,108,111,99,107])) w fun x16=>
 BR x16
 (R (Value.bool false) w)
 (rB .eql 9 T0 U0 a0 (Value.string (ByteArray.mk #[119,104,105,108,101])) w fun x17=>
 BR x17
 (R (Value.bool false) w)
 (cL 221 [a0] w fun x19 w=>
 R x19 w)))))))))))))
def cfg173:Cfg:=⟨extL,[],[],[],[],[],[]⟩
theorem F173_call {a0:Value} {w:World} {R:VW} (h:F173 a0 w R):cL 173 [a0] w R:=co (g:=cfg173) Tryz.func173 (by kernel_rfl) (by kernel_rfl) (by kernel_rfl) h
theorem zfH {w:World} {s:ByteArray}    :
   CALL Tryz.prog 173 [.string s] w fun r w'=>Ext w w'∧(r=.bool (zbr s)):=by
 refine F173_call ?_
 unfold F173
 refine zaV ?_
 refine br (fun c1=>?_) (fun c1=>?_)
 · refine ⟨Ext.refl w,?_⟩
   have hm:s∈kw:=by simp [kw, *]
   simp [zbr,hm]
 refine zaV ?_
 refine br (fun c2=>?_) (fun c2=>?_)
 · refine ⟨Ext.refl w,?_⟩
   have hm:s∈kw:=by simp [kw, *]
   simp [zbr,hm]
 refine zaV ?_
 refine br (fun c3=>?_) (fun c3=>?_)
 · refine ⟨Ext.refl w,?_⟩
   have hm:s∈kw:=by simp [kw, *]
   simp [zbr,hm]
 refine zaV ?_
 refine br (fun c4=>?_) (fun c4=>?_)
 · refine ⟨Ext.refl w,?_⟩
   have hm:s∈kw:=by simp [kw, *]
   simp [zbr,hm]
 refine zaV ?_
 refine br (fun c5=>?_) (fun c5=>?_)
 · refine ⟨Ext.refl w,?_⟩
   have hm:s∈kw:=by simp [kw, *]
   simp [zbr,hm]
 refine zaV ?_
 refine br (fun c6=>?_) (fun c6=>?_)
 · refine ⟨Ext.refl w,?_⟩
   have hm:s∈kw:=by simp [kw, *]
   simp [zbr,hm]
 refine zaV ?_
 refine br (fun c7=>?_) (fun c7=>?_)
 · refine ⟨Ext.refl w,?_⟩
   have hm:s∈kw:=by simp [kw, *]
   simp [zbr,hm]
 refine zaV ?_
 refine br (fun c8=>?_) (fun c8=>?_)
 · refine ⟨Ext.refl w,?_⟩
   have hm:s∈kw:=by simp [kw, *]
   simp [zbr,hm]
 refine zaV ?_
 refine br (fun c9=>?_) (fun c9=>?_)
 · refine ⟨Ext.refl w,?_⟩
   have hm:s∈kw:=by simp [kw, *]
   simp [zbr,hm]
 refine zaV ?_
 refine br (fun c10=>?_) (fun c10=>?_)
 · refine ⟨Ext.refl w,?_⟩
   have hm:s∈kw:=by simp [kw, *]
   simp [zbr,hm]
 refine zaV ?_
 refine br (fun c11=>?_) (fun c11=>?_)
 · refine ⟨Ext.refl w,?_⟩
   have hm:s∈kw:=by simp [kw, *]
   simp [zbr,hm]
 refine zaV ?_
 refine br (fun c12=>?_) (fun c12=>?_)
 · refine ⟨Ext.refl w,?_⟩
   have hm:s∈kw:=by simp [kw, *]
   simp [zbr,hm]
 refine zaV ?_
 refine br (fun c13=>?_) (fun c13=>?_)
 · refine ⟨Ext.refl w,?_⟩
   have hm:s∈kw:=by simp [kw, *]
   simp [zbr,hm]
 refine (zmd ).mono ?_
 rintro _ w1_ ⟨hx1_,rfl⟩
 refine ⟨hx1_,?_⟩
 have hm:s∉kw:=by simp [kw, *]
 simp [zbr,hm]
def F222 (a0:Value) (w:World) (R:VW):Prop:=
 rN 9 3 a0 w fun x5=>
 rB .lss 3 T0 U0 x5 (iV 1) w fun x6=>
 BR x6
 (R (Value.bool false) w)
 (rN 9 3 a0 w fun x9=>
 rB .gtr 3 T0 U0 x9 (iV 12) w fun x10=>
 BR x10
 (R (Value.bool false) w)
 (rD (Instr.index 9 a0 (iV 0)) w fun x14=>
 cL 253 [x14] w fun x15 w=>
 rD (Op.unary .not x15) w fun x16=>
 BR x16
 (R (Value.bool false) w)
 (LOOPI [3] [(iV 0)] w fun u4 w next4=>
 rN 9 3 a0 w fun x20=>
 rC (u4 3) x20 w fun x21=>
 BR x21
 (rD (Instr.index 9 a0 (u4 3)) w fun x26=>
 cL 253 [x26] w fun x27 w=>
 rD (Op.unary .not x27) w fun x28=>
 BR x28
 (rD (Instr.index 9 a0 (u4 3)) w fun x32=>
 cL 254 [x32] w fun x33 w=>
 rD (Op.unary .not x33) w fun x34=>
 BR x34
 (R (Value.bool false) w)
 (rA (u4 3) (iV 1) w fun x23=>
 next4 [x23] w))
 (rA (u4 3) (iV 1) w fun x23=>
 next4 [x23] w))
 (rB .eql 9 T0 U0 a0 (Value.string (ByteArray.mk #[97,110,100])) w fun x38=>
 BR x38
 (R (Value.bool false) w)
 (rB .eql 9 T0 U0 a0 (Value.string (ByteArray.mk #[99,97,108,108])) w fun x39=>
 BR x39
 (R (Value.bool false) w)
 (rB .eql 9 T0 U0 a0 (Value.string (ByteArray.mk #[101,108,115,101])) w fun x40=>
 BR x40
 (R (Value.bool false) w)
 (rB .eql 9 T0 U0 a0 (Value.string (ByteArray.mk #[103,108,111,98,97,108,115])) w fun x41=>
 BR x41
 (R (Value.bool false) w)
 (rB .eql 9 T0 U0 a0 (Value.string (ByteArray.mk #[105,102])) w fun x42=>
 BR x42
 (R (Value.bool false) w)
 (rB .eql 9 T0 U0 a0 (Value.string (ByteArray.mk #[108,111,99,107])) w fun x43=>
 BR x43
 (R (Value.bool false) w)
 (rB .eql 9 T0 U0 a0 (Value.string (ByteArray.mk #[108,111,99,107,115])) w fun x44=>
 BR x44
 (R (Value.bool false) w)
 (rB .eql 9 T0 U0 a0 (Value.string (ByteArray.mk #[110,111,116])) w fun x45=>
 BR x45
 (R (Value.bool false) w)
 (rB .eql 9 T0 U0 a0 (Value.string (ByteArray.mk #[112,114,111,99])) w fun x46=>
 BR x46
 (R (Value.bool false) w)
 (rB .eql 9 T0 U0 a0 (Value.string (ByteArray.mk #[115,107,105,112])) w fun x47=>
 BR x47
 (R (Value.bool false) w)
 (rB .eql 9 T0 U0 a0 (Value.string (ByteArray.mk #[115,112,97,119,110])) w fun x48=>
 BR x48
 (R (Value.bool false) w)
 (rB .eql 9 T0 U0 a0 (Value.string (ByteArray.mk #[117,110,108,111,99,107])) w fun x49=>
 BR x49
 (R (Value.bool false) w)
 (rB .eql 9 T0 U0 a0 (Value.string (ByteArray.mk #[119,104,105,108,101])) w fun x50=>
 BR x50
 (R (Value.bool false) w)
 (R (Value.bool true) w)))))))))))))))))
def cfg222:Cfg:=⟨extL,[],[(4,68719214604,[3])],[],[],[],[]⟩
theorem F222_call {a0:Value} {w:World} {R:VW} (h:F222 a0 w R):cL 222 [a0] w R:=co (g:=cfg222) Tryz.func222 (by kernel_rfl) (by kernel_rfl) (by kernel_rfl) h
theorem zfI {w:World} {s:ByteArray}    :
   CALL Tryz.prog 222 [.string s] w fun r w'=>Ext w w'∧(r=.bool (zbr s)):=by
 refine F222_call ?_
 unfold F222
 refine zex u9 ?_
 refine zah ?_
 refine br (fun c1=>?_) (fun c1=>?_)
 · refine ⟨Ext.refl w,?_⟩
   simp [zbr,zhY (s:=s) (by omega)]
 refine zex u9 ?_
 refine zdI ?_
 refine br (fun c2=>?_) (fun c2=>?_)
 · refine ⟨Ext.refl w,?_⟩
   simp [zbr,zjC (s:=s) (by omega)]
 refine zdJ (i:=0) u9 (by omega) ?_
 refine (zhX ).mono ?_
 rintro _ w1_ ⟨hx1_,rfl⟩
 refine zaA ?_
 refine br (fun c3=>?_) (fun c3=>?_)
 · refine ⟨hx1_,?_⟩
   simp [zbr,zjD (s:=s) (by omega) c3]
 refine zas (s.size) (fun k us w'=>us=[.int .i64 (k:Int)]∧Ext w1_ w'∧(∀ b∈(bts s).take k,(zjb b || zmc b)=true)) (0) (by omega) ⟨by simp,Ext.refl w1_,by simp⟩ ?_
 rintro k m4 uu4 w2_ hk4 ⟨hu,hx2_,hinv⟩
 simp only [List.map_cons,List.map_nil,List.cons.injEq,and_true] at hu
 try rw [hu]
 try clear hu
 refine zex u9 ?_
 refine zah ?_
 refine br (fun c4=>?_) (fun c4=>?_)
 · refine zdJ u9 (by omega) ?_
   refine (zhX ).mono ?_
   rintro _ w3_ ⟨hx3_,rfl⟩
   refine zaA ?_
   refine br (fun c5=>?_) (fun c5=>?_)
   · refine zdJ u9 (by omega) ?_
     refine (zkr ).mono ?_
     rintro _ w4_ ⟨hx4_,rfl⟩
     refine zaA ?_
     refine br (fun c6=>?_) (fun c6=>?_)
     · refine ⟨(hx1_.trans (hx2_.trans (hx3_.trans hx4_))),?_⟩
       simp [zbr,zm8 (s:=s) (by omega) c5 c6]
     refine zag (by omega) ?_
     refine ⟨m4-1,by omega,k+1,by omega,by simp,(hx2_.trans (hx3_.trans hx4_)),?_⟩
     exact zfG (by omega) hinv (.inr (by simp only [zmc,Decidable.not_not.1 c6,and_self,decide_true]))
   refine zag (by omega) ?_
   refine ⟨m4-1,by omega,k+1,by omega,by simp,(hx2_.trans hx3_),?_⟩
   exact zfG (by omega) hinv (.inl (by simp only [zjb,Decidable.not_not.1 c5,and_self,decide_true]))
 refine zaV ?_
 refine br (fun c7=>?_) (fun c7=>?_)
 · refine ⟨(hx1_.trans hx2_),?_⟩
   have hm:s∈kw:=by simp only [kw,List.mem_cons, *,true_or,or_true]
   simp [zbr,hm]
 refine zaV ?_
 refine br (fun c8=>?_) (fun c8=>?_)
 · refine ⟨(hx1_.trans hx2_),?_⟩
   have hm:s∈kw:=by simp only [kw,List.mem_cons, *,true_or,or_true]
   simp [zbr,hm]
 refine zaV ?_
 refine br (fun c9=>?_) (fun c9=>?_)
 · refine ⟨(hx1_.trans hx2_),?_⟩
   have hm:s∈kw:=by simp only [kw,List.mem_cons, *,true_or,or_true]
   simp [zbr,hm]
 refine zaV ?_
 refine br (fun c10=>?_) (fun c10=>?_)
 · refine ⟨(hx1_.trans hx2_),?_⟩
   have hm:s∈kw:=by simp only [kw,List.mem_cons, *,true_or,or_true]
   simp [zbr,hm]
 refine zaV ?_
 refine br (fun c11=>?_) (fun c11=>?_)
 · refine ⟨(hx1_.trans hx2_),?_⟩
   have hm:s∈kw:=by simp only [kw,List.mem_cons, *,true_or,or_true]
   simp [zbr,hm]
 refine zaV ?_
 refine br (fun c12=>?_) (fun c12=>?_)
 · refine ⟨(hx1_.trans hx2_),?_⟩
   have hm:s∈kw:=by simp only [kw,List.mem_cons, *,true_or,or_true]
   simp [zbr,hm]
 refine zaV ?_
 refine br (fun c13=>?_) (fun c13=>?_)
 · refine ⟨(hx1_.trans hx2_),?_⟩
   have hm:s∈kw:=by simp only [kw,List.mem_cons, *,true_or,or_true]
   simp [zbr,hm]
 refine zaV ?_
 refine br (fun c14=>?_) (fun c14=>?_)
 · refine ⟨(hx1_.trans hx2_),?_⟩
   have hm:s∈kw:=by simp only [kw,List.mem_cons, *,true_or,or_true]
   simp [zbr,hm]
 refine zaV ?_
 refine br (fun c15=>?_) (fun c15=>?_)
 · refine ⟨(hx1_.trans hx2_),?_⟩
   have hm:s∈kw:=by simp only [kw,List.mem_cons, *,true_or,or_true]
   simp [zbr,hm]
 refine zaV ?_
 refine br (fun c16=>?_) (fun c16=>?_)
 · refine ⟨(hx1_.trans hx2_),?_⟩
   have hm:s∈kw:=by simp only [kw,List.mem_cons, *,true_or,or_true]
   simp [zbr,hm]
 refine zaV ?_
 refine br (fun c17=>?_) (fun c17=>?_)
 · refine ⟨(hx1_.trans hx2_),?_⟩
   have hm:s∈kw:=by simp only [kw,List.mem_cons, *,true_or,or_true]
   simp [zbr,hm]
 refine zaV ?_
 refine br (fun c18=>?_) (fun c18=>?_)
 · refine ⟨(hx1_.trans hx2_),?_⟩
   have hm:s∈kw:=by simp only [kw,List.mem_cons, *,true_or,or_true]
   simp [zbr,hm]
 refine zaV ?_
 refine br (fun c19=>?_) (fun c19=>?_)
 · refine ⟨(hx1_.trans hx2_),?_⟩
   have hm:s∈kw:=by simp only [kw,List.mem_cons, *,true_or,or_true]
   simp [zbr,hm]
 refine ⟨(hx1_.trans hx2_),?_⟩
 have hm:s∉kw:=by simp only [kw,List.mem_cons,List.not_mem_nil,or_false, *,not_false_eq_true]
 simp [zbr,hm,zlq (by omega) (by omega) (Decidable.not_not.1 c3) (by omega) hinv]
end Go.Proofs.YtifonhplnmpgaaaGreat
namespace Go.Sh
open Go.RowKit (Below)
open Rep (rep)
theorem zlr (off:Nat):∀ (l:List Value) (k:Nat) (cs:Array Value),
   ((l.zipIdx k).foldl (fun (cs:Array Value) (p:Value×Nat)=>cs.setIfInBounds (off+p.2) p.1) cs).size=cs.size ∧
   ∀ i,((l.zipIdx k).foldl (fun (cs:Array Value) (p:Value×Nat)=>cs.setIfInBounds (off+p.2) p.1) cs)[i]?=if off+k≤i∧i<off+k+l.length∧i<cs.size then l[i-(off+k)]? else cs[i]?
 | [],k,cs=>by
   refine ⟨rfl,fun i=>?_⟩
   rw [if_neg (by simp;omega)]
   rfl
 | v :: l,k,cs=>by
   obtain ⟨h1,h2⟩:=zlr off l (k+1) (cs.setIfInBounds (off+k) v)
   simp only [List.zipIdx_cons,List.foldl_cons]
   refine ⟨by rw [h1];simp,fun i=>?_⟩
   rw [h2]
   simp only [Array.size_setIfInBounds,List.length_cons]
   by_cases hi:i=off+k
   · subst hi
     rw [if_neg (by omega)]
     by_cases hs:off+k<cs.size
     · rw [if_pos (by omega)];simp [hs]
     rw [if_neg (by omega),Array.getElem?_eq_none (by rw [Array.size_setIfInBounds];omega),Array.getElem?_eq_none (by omega)]
   by_cases hr:off+(k+1)≤i∧i<off+(k+1)+l.length∧i<cs.size
   · rw [if_pos hr,if_pos (by omega)]
     have:i-(off+k)=(i-(off+(k+1)))+1:=by omega
     rw [this,List.getElem?_cons_succ]
   rw [if_neg hr,if_neg (by omega),Array.getElem?_setIfInBounds_ne (by omega)]
theorem zls (v:Value) (cells:Array Value) (s:Nat) (hv:v.cells.size=s) (hc:cells.size=s):Instr.fill (fun i=>some (i*s,s)) cells [(0,v)]=some v.cells:=by
 unfold Instr.fill
 simp only [Nat.zero_mul]
 rw [if_neg (by simp;omega)]
 unfold Instr.fill
 congr 1
 obtain ⟨h1,h2⟩:=zlr 0 v.cells.toList 0 cells
 have e:v.cells.zipIdx.foldl (fun (cs:Array Value) (x:Value×Nat)=>match x with | (c,j)=>cs.setIfInBounds (0+j) c) cells
     = (v.cells.toList.zipIdx 0).foldl (fun (cs:Array Value) (p:Value×Nat)=>cs.setIfInBounds (0+p.2) p.1) cells:=by
   rw [←Array.foldl_toList,Array.toList_zipIdx]
 rw [e]
 apply Array.ext_getElem?
 intro i
 rw [h2]
 by_cases hi:i<s
 · rw [if_pos (by simp;omega)];simp
 rw [if_neg (by simp;omega),Array.getElem?_eq_none (by omega),Array.getElem?_eq_none (by omega)]
section
variable {w w' w'':World} {lo hi a b:Nat}
end
def RowI {α:Type} [Rep α] (lo hi:Nat) (e:TypeId) (w:World) (v:Value) (l:List α):Prop:=(∃ a,v=.slice a 0 0∧l=[])∨∃ F,RowF F e w v l∧F.Nodup∧∀ b∈F,lo≤b∧b<hi
section
variable {P:Program} {w w0 w':World} {α:Type} [Rep α] {lo hi a b e:Nat} {v:Value} {l:List α}
theorem zjE (a:Option Addr):OwnI (α:=List α) lo hi w (.slice a 0 0) []:=
 ⟨[],⟨⟨_,⟨a,0,[],[],rfl,Nat.le_refl _,Nat.zero_le _,⟨rfl,rfl⟩,.inl ⟨rfl,rfl⟩⟩,rfl⟩,List.nodup_nil,Wr.nil w⟩,by simp⟩
theorem RowI.ext (h:RowI lo hi e w v l) (hx:Ext w w'):RowI lo hi e w' v l:=by
 rcases h with h | ⟨F,h1,h2,h3⟩
 · exact .inl h
 exact .inr ⟨F,h1.ext hx,h2,h3⟩
theorem RowI.chg (h:RowI lo hi e w v l) (hc:ChgI a b w w') (hd:hi≤a∨b≤lo):RowI lo hi e w' v l:=by
 rcases h with h | ⟨F,h1,h2,h3⟩
 · exact .inl h
 exact .inr ⟨F,h1.keep fun c hcm=>hc.block c (h1.lt c hcm) (by have:=h3 c hcm;omega),h2,h3⟩
theorem RowI.own (h:RowI lo hi e w v l):OwnI lo hi w v l:=by
 rcases h with ⟨a,rfl,rfl⟩ | ⟨F,h1,h2,h3⟩
 · exact zjE a
 exact ⟨F,⟨h1.own,h2,h1.wr⟩,h3⟩
theorem RowI.is (h:RowI lo hi e w v l):Is w v l:=h.own.is
theorem RowI.mono {lo' hi':Nat} (h:RowI lo hi e w v l) (h1:lo'≤lo) (h2:hi≤hi'):RowI lo' hi' e w v l:=by
 rcases h with h | ⟨F,h1,h2,h3⟩
 · exact .inl h
 exact .inr ⟨F,h1,h2,fun b hb=>by have:=h3 b hb;omega⟩
theorem zdM (lo hi e:Nat) (w:World) (a:Option Addr):RowI (α:=α) lo hi e w (.slice a 0 0) []:=.inl ⟨a,rfl,rfl⟩
theorem zc0 (lo hi e:Nat) (w:World):RowI (α:=α) lo hi e w (.slice none 0 0) []:=.inl ⟨none,rfl,rfl⟩
theorem zhc (e:Nat) (w:World):RowF (α:=α) [] e w (.slice none 0 0) []:=⟨[],[],⟨by simp,.inl ⟨rfl,rfl⟩⟩,⟨rfl,rfl⟩,rfl,Wr.nil _⟩
theorem ziv {m1 m2:Sem Value} {K:Value→World→Prop} (h:m1.run P w=m2.run P w) (k:OP P m2 w K):OP P m1 w K:=by
 obtain ⟨v,w',hr,hk⟩:=k;exact ⟨v,w',h.trans hr,hk⟩
theorem zfi {t ty:TypeId} {by_ n c:Nat} {x:Addr} {b o:Nat} {xs:List Value} (ht:P.underlying t=some (.slice e)) (he:tyI P e=some (Rep.size α,by_,Rep.agg α)) (hzc:(P.info? e).map (fun i=>(i.zero.map (·.cells.size)))=some (some (Rep.size α)))
   (hl:xs.length=n*Rep.size α) (hr:w.rangeAt b o xs) (h0:0<n) (hm:n≤maxLen) (hb:n*by_≤140737488355328) :
   (Builtin.append_ #[t,t] ty #[.slice (some x) 0 0,.slice (some ⟨b,o,none⟩) n c]).run P w=(Builtin.append_ #[t,t] ty #[.slice none 0 0,.slice (some ⟨b,o,none⟩) n c]).run P w:=by
 obtain ⟨i,d,hi,hd,hs,hby,hg⟩:=zcj he
 simp only [hi,Option.map_some,Option.some.injEq] at hzc
 obtain ⟨z,hz,hzs⟩:=Option.map_eq_some_iff.1 hzc
 rw [zao] at hm
 have h1:=run_append_nil (P:=P) w t ty e i z ht hi hz ⟨b,o,none⟩ n c xs (by rw [hs];exact hl) (fun j u hu=>by rw [Addr.add_mid];exact hr j u hu) h0 (by omega) (by rw [hby];omega)
 have h2:=run_append_grow (P:=P) w t ty e i z ht hi hz x 0 0 [] (by simp) (by simp) ⟨b,o,none⟩ n c xs (by rw [hs];exact hl) (fun j u hu=>by rw [Addr.add_mid];exact hr j u hu) (by omega) (by omega) (growslice_fits (by omega) (by rw [hby];simpa using hb))
 rw [h1,h2]
 simp
theorem zfJ {t:TypeId} {by_:Nat} {u:Value} {x:α} {K:Value→World→Prop} (ht:P.underlying t=some (.slice e)) (he:tyI P e=some (Rep.size α,by_,Rep.agg α)) (hz:zbJ P e=true) (hsz:Rep.size α≤1000)
   {F:List Nat} (hx:Mine F w u x)
   (k:∀ w',Ext w w'→Mine (w.heap.size :: F) w' (.slice (some ⟨w.heap.size,0,none⟩) 1 1) [x]→K (.slice (some ⟨w.heap.size,0,none⟩) 1 1) w'):OP P (Instr.buildSlice t 1 #[(0,u)]) w K:=by
 obtain ⟨⟨cs,hr,rfl⟩,hn,hw⟩:=hx
 have hcl:=zey hr
 have hlen:=Rep.len hr
 have hvs:(mkv α cs).cells.size=Rep.size α:=by rw [←Array.length_toList,hcl,hlen]
 obtain ⟨i,d,hi,hd,hs,hby,hg⟩:=zcj he
 unfold zbJ at hz
 rw [hi] at hz
 obtain ⟨z,hz⟩:=Option.isSome_iff_exists.1 hz
 have hpos:=Rep.pos (α:=α)
 refine ⟨_,w.alloc (.cells (mkv α cs).cells e),?_,k _ (zaX w _) ?_⟩
 · have hne:¬Rep.size α=0:=by omega
   have h24:¬2^24<Rep.size α:=by omega
   simp only [Instr.buildSlice,Sem.run_bind,run_underlying ht,Result.andThen_ok,zaO he,Nat.one_mul]
   simp [h24,hne,zeroValue,typeInfo,hi,hz,zls _ _ _ hvs,newRow]
 have hx:=zaX w (.cells (mkv α cs).cells e)
 have hB:(w.alloc (.cells (mkv α cs).cells e)).heap[w.heap.size]?=some (.cells (mkv α cs).cells e (0,0)):=heap_alloc_new w _
 have hFlt:=Rep.lt hr
 refine ⟨⟨_,⟨_,1,F,cs,rfl,Nat.le_refl _,by rw [zao];omega,Cells.single (zb4 hr hx),.inr ⟨w.heap.size,0,rfl,rfl,?_,?_⟩⟩,rfl⟩,?_,?_⟩
 · intro j y hy
   simp only [World.cell?,hB]
   rw [←hcl] at hy
   simpa using hy
 · exact (Array.getElem?_eq_some_iff.1 hB).1
 · exact List.nodup_cons.2 ⟨fun h=>by have:=hFlt _ h;omega,hn⟩
 intro c hc
 rcases List.mem_cons.1 hc with rfl | hc
 · exact ⟨_,_,hB⟩
 exact hw.ext hx c hc
theorem zme {t:TypeId} {by_:Nat} {u:Value} {x:α} {K:Value→World→Prop} (ht:P.underlying t=some (.slice e)) (he:tyI P e=some (Rep.size α,by_,Rep.agg α)) (hz:zbJ P e=true) (hsz:Rep.size α≤1000)
   (hx:OwnI lo hi w u x) (hlo:lo≤w.heap.size)
   (k:∀ v w',Ext w w'→OwnI lo w'.heap.size w' v [x]→K v w'):OP P (Instr.buildSlice t 1 #[(0,u)]) w K:=by
 obtain ⟨F,hm,hF⟩:=hx
 refine zfJ ht he hz hsz hm fun w' hxx hm'=>k _ w' hxx ⟨_,hm',fun b hb=>⟨?_,hm'.lt b hb⟩⟩
 rcases List.mem_cons.1 hb with rfl | hb
 · exact hlo
 exact (hF b hb).1
theorem zba {t:TypeId} {by_:Nat} {K:Value→World→Prop} (ht:P.underlying t=some (.slice e)) (he:tyI P e=some (Rep.size α,by_,Rep.agg α))
   (k:∀ a w',Ext w w'→RowI (α:=α) w'.heap.size w'.heap.size e w' (.slice (some a) 0 0) []→K (.slice (some a) 0 0) w'):OP P (Instr.buildSlice t 0 #[]) w K:=
 zgZ (α:=α) ht he fun a w' hx hr=>k _ w' hx (zdM _ _ _ _ _)
theorem zoG {t ty:TypeId} {by_:Nat} {u:Value} {x:α} {lo2 hi2:Nat} {K C:Value→World→Prop} (ht:P.underlying t=some (.slice e)) (he:tyI P e=some (Rep.size α,by_,Rep.agg α)) (hz:zbJ P e=true)
   (hzc:(P.info? e).map (fun i=>(i.zero.map (·.cells.size)))=some (some (Rep.size α))) (hsz:Rep.size α≤1000) (hv:RowI lo hi e w v l) (hlo:lo≤w.heap.size) (hx:OwnI lo2 hi2 w u x) (hl:hi≤lo2) (hl2:lo≤lo2) (hm:l.length+1≤maxLen) (hb:(l.length+1)*by_≤140737488355328)
   (k:∀ v' w',ChgI lo hi w w'→RowI lo w'.heap.size e w' v' (l++[x])→K v' w')
   (hC:∀ s w1,Ext w w1→OP P (Builtin.append_ #[t,t] ty [v,s].toArray) w1 K→C s w1):OP P (Instr.buildSlice t 1 #[(0,u)]) w C:=by
 obtain ⟨G,hmx,hG⟩:=hx
 refine zfJ ht he hz hsz hmx fun w1 hx1 hm1=>?_
 obtain ⟨⟨cs,⟨a,cap,Fi,xs,rfl,h1,h2,hc,h4⟩,hveq⟩,hn1,hw1⟩:=hm1
 simp only [mkv,Rep.agg,cond_false,List.headD_cons,Value.slice.injEq,List.length_cons,List.length_nil] at hveq
 obtain ⟨rfl,_,rfl⟩:=hveq
 rcases h4 with ⟨h4,_⟩ | ⟨b,o,hab,hFe,hra,hbl⟩
 · simp at h4
 simp only [List.cons.injEq] at hFe
 obtain ⟨_,rfl⟩:=hFe
 have key:∀ (v:Value) (F:List Nat),RowF F e w v l→F.Nodup→(∀ b∈F,lo≤b∧b<hi)→OP P (Builtin.append_ #[t,t] ty [v,.slice (some ⟨w.heap.size,0,none⟩) 1 1].toArray) w1 K:=by
   intro v F hF hFn hFl
   have hF1:=hF.ext hx1
   have hd:(G++F).Nodup:=by
     rw [List.nodup_append]
     refine ⟨hmx.nodup,hFn,fun p hp q hq e=>?_⟩
     subst e
     have:=hG p hp
     have:=hFl p hq
     omega
   refine zfD (m:=[x]) ht he hzc hF1 hFn rfl hc (.inr ⟨b,o,hab,hra⟩) (hw1.sub (by simp +contextual)) hd (by simpa using hm) (by simpa using hb) fun v' w' F' hch hfull hr' hn' hs'=>?_
   have hown:∀ c∈v.ownBlock.toList,lo≤c∧c<hi:=fun c hc=>by
     obtain ⟨xs,Fi,_,_,rfl,_⟩:=hF
     exact hFl c (by simp only [List.mem_append];exact .inl hc)
   refine k v' w' ((Ext.toI hx1).trans (hch.toI hown)) (.inr ⟨F',hr',hn',fun c hc=>⟨?_,hr'.lt c hc⟩⟩)
   rcases hs' c hc with h | h | h
   · exact (hFl c h).1
   · have:=hG c h;omega
   have:=hx1.size;omega
 refine hC _ w1 hx1 ?_
 rcases hv with ⟨a0,rfl,rfl⟩ | ⟨F,hF,hFn,hFl⟩
 · have kn:=key (.slice none 0 0) [] (zhc e w) List.nodup_nil (by simp)
   cases a0 with
   | none=>exact kn
   | some x0=>
     simp only [Option.some.injEq,Addr.mk.injEq] at hab
     obtain ⟨rfl,rfl,_⟩:=hab
     exact ziv (zfi (α:=α) (n:=1) ht he hzc (by simpa using Cells.len hc) hra (by omega) (by rw [zao];omega) (by simpa using hb)) kn
 exact key v F hF hFn hFl
theorem zcb {t ty:TypeId} {by_:Nat} {u:Value} {x:α} {lo2 hi2:Nat} {K:Value→World→Prop} (ht:P.underlying t=some (.slice e)) (he:tyI P e=some (Rep.size α,by_,Rep.agg α)) (hz:zbJ P e=true)
   (hzc:(P.info? e).map (fun i=>(i.zero.map (·.cells.size)))=some (some (Rep.size α))) (hsz:Rep.size α≤1000) (hv:RowI lo hi e w v l) (hlo:lo≤w.heap.size) (hx:OwnI lo2 hi2 w u x) (hl:hi≤lo2) (hl2:lo≤lo2) (hm:l.length+1≤maxLen) (hb:(l.length+1)*by_≤140737488355328)
   (k:∀ v' w',ChgI lo hi w w'→RowI lo w'.heap.size e w' v' (l++[x])→K v' w'):OP P (Instr.buildSlice t 1 #[(0,u)]) w fun s w1=>OP P (Builtin.append_ #[t,t] ty [v,s].toArray) w1 K:=
 zoG ht he hz hzc hsz hv hlo hx hl hl2 hm hb k fun _ _ _ h=>h
theorem zdN [Flat α] {t ty:TypeId} {by_:Nat} {src:Value} {m:List α} {K:Value→World→Prop} (ht:P.underlying t=some (.slice e)) (he:tyI P e=some (Rep.size α,by_,Rep.agg α))
   (hzc:(P.info? e).map (fun i=>(i.zero.map (·.cells.size)))=some (some (Rep.size α))) (hv:RowI lo hi e w v l) (hlo:lo≤w.heap.size) (hs:Is w0 src m) (hx:Ext w0 w) (hm:l.length+m.length≤maxLen) (hb:(l.length+m.length)*by_≤140737488355328)
   (k:∀ v' w',ChgI lo hi w w'→RowI lo w'.heap.size e w' v' (l++m)→K v' w'):OP P (Builtin.append_ #[t,t] ty [v,src].toArray) w K:=by
 obtain ⟨a,cap,Fi,xs,rfl,h1,h2,hc,h4⟩:=zdc (hs.ext hx)
 have hFi:=Cells.flat (xs:=xs) hc
 subst hFi
 have key:∀ (v:Value) (F:List Nat),RowF F e w v l→F.Nodup→(∀ b∈F,lo≤b∧b<hi)→OP P (Builtin.append_ #[t,t] ty [v,.slice a m.length cap].toArray) w K:=by
   intro v F hF hFn hFl
   refine zfD (m:=m) ht he hzc hF hFn rfl hc (by rcases h4 with h | ⟨b,o,ha,hr,_⟩;exact .inl h;exact .inr ⟨b,o,ha,hr⟩) (Wr.nil _) (by simpa using hFn) hm hb fun v' w' F' hch hfull hr' hn' hs'=>?_
   have hown:∀ c∈v.ownBlock.toList,lo≤c∧c<hi:=fun c hc=>by
     obtain ⟨xs,Fi,_,_,rfl,_⟩:=hF
     exact hFl c (by simp only [List.mem_append];exact .inl hc)
   refine k v' w' (hch.toI hown) (.inr ⟨F',hr',hn',fun c hc=>⟨?_,hr'.lt c hc⟩⟩)
   rcases hs' c hc with h | h | h
   · exact (hFl c h).1
   · simp at h
   omega
 rcases hv with ⟨a0,rfl,rfl⟩ | ⟨F,hF,hFn,hFl⟩
 · have kn:=key (.slice none 0 0) [] (zhc e w) List.nodup_nil (by simp)
   cases a0 with
   | none=>exact kn
   | some x0=>
     by_cases hm0:m=[]
     · subst hm0
       refine ⟨.slice (some x0) 0 0,w,?_,k _ w (ChgI.refl w) (zdM _ _ _ _ _)⟩
       have hf:(Builtin.firstCells (Rep.size α) 0 (.slice a 0 cap)).run P w=.ok #[] w:=by
         cases a with
         | none=>rfl
         | some a=>simp [Builtin.firstCells,loadCells,loadCellsFrom]
       simp [Builtin.append_,run_underlying ht,zaO he,Builtin.lenOf,hf,storeCells]
     rcases h4 with h | ⟨b,o,rfl,hr,_⟩
     · exact absurd h hm0
     exact ziv (zfi (α:=α) ht he hzc (Cells.len hc) hr (List.length_pos_iff.2 hm0) (by simpa using hm) (by simpa using hb)) kn
 exact key v F hF hFn hFl
theorem zm9 {a:Option Addr} {cap:Nat} {l:List α} (h:Is w (.slice a l.length cap) l) (k:Nat) (hk:k≤l.length):Is w (.slice a k cap) (l.take k):=by
 obtain ⟨F,cs,⟨a',cap',Fi,xs,rfl,h1,h2,hc,h4⟩,hv⟩:=h
 simp only [mkv,Rep.agg,cond_false,List.headD_cons,Value.slice.injEq] at hv
 obtain ⟨rfl,_,rfl⟩:=hv
 have e:l=l.take k++l.drop k:=by simp
 have hlen:(l.take k).length=k:=by simp;omega
 rw [e] at hc
 obtain ⟨F1,F2,x1,x2,rfl,rfl,c1,c2⟩:=Cells.split hc
 by_cases hd:l.take k=[]
 · refine ⟨[],_,⟨a,cap,F1,x1,rfl,by rw [hlen];omega,h2,c1,.inl ⟨hd,rfl⟩⟩,?_⟩
   rw [hlen];rfl
 rcases h4 with ⟨rfl,_⟩ | ⟨b,o,rfl,rfl,hr,hb⟩
 · simp at hd
 refine ⟨_,_,⟨some ⟨b,o,none⟩,cap,F1,x1,rfl,by rw [hlen];omega,h2,c1,.inr ⟨b,o,rfl,rfl,(zaN hr).1,hb⟩⟩,?_⟩
 rw [hlen];rfl
theorem zhd {t:TypeId} {by_:Nat} {v:Value} {l:List α} {i:Int} {K:Value→Prop} (ht:P.underlying t=some (.slice e)) (he:tyI P e=some (Rep.size α,by_,Rep.agg α)) (h:Is w0 v l) (h0:0≤i) (h1:i.toNat≤l.length)
   (k:∀ v',Is w0 v' (l.take i.toNat)→K v'):RD P (Instr.sliceAt t v none (some (.int .i64 i)) none) w K:=by
 obtain ⟨a,cap,Fi,xs,rfl,hc1,hcm,_,h4⟩:=zdc h
 have hb:∀ w',(Instr.sliceBounds true l.length cap none (some (.int .i64 i)) none).run P w'=.ok (0,i.toNat,cap) w':=fun w'=>by
   have:i≤(cap:Int):=by omega
   simp [Instr.sliceBounds,Instr.sliceBound,asIntOf,h0,this]
 refine za4 (v:=.slice a i.toNat cap) (fun w' _=>?_) (k _ (zm9 h i.toNat h1))
 have hz:(if cap=0 then a else a.map (fun x=>x.add (0*Rep.size α)))=a:=by
   split
   · rfl
   cases a<;>simp [Addr.add_mid,Addr.add]
 simp only [Instr.sliceAt,Instr.slice,Sem.run_bind,run_underlying ht,Result.andThen_ok,hb,zaO he]
 simp
 exact fun _=>by cases a<;>simp [Addr.add_mid,Addr.add]
theorem ziw {t:TypeId} {by_:Nat} {v:Value} {l:List α} {i j:Int} {K:Value→Prop} (ht:P.underlying t=some (.slice e)) (he:tyI P e=some (Rep.size α,by_,Rep.agg α)) (h:Is w0 v l) (h0:0≤i) (h1:i≤j) (h2:j.toNat≤l.length)
   (k:∀ v',Is w0 v' ((l.take j.toNat).drop i.toNat)→K v'):RD P (Instr.sliceAt t v (some (.int .i64 i)) (some (.int .i64 j)) none) w K:=by
 obtain ⟨a,cap,Fi,xs,rfl,hc1,hcm,_,h4⟩:=zdc h
 have hb:∀ w',(Instr.sliceBounds true l.length cap (some (.int .i64 i)) (some (.int .i64 j)) none).run P w'=.ok (i.toNat,j.toNat,cap) w':=fun w'=>by
   have h3:j≤(cap:Int):=by omega
   have h5:0≤j:=by omega
   simp [Instr.sliceBounds,Instr.sliceBound,asIntOf,h0,h1,h3,h5]
   intro h6
   omega
 have hl:(l.take j.toNat).length=j.toNat:=by rw [List.length_take];omega
 have ht1:Is w0 (.slice a (l.take j.toNat).length cap) (l.take j.toNat):=by rw [hl];exact zm9 h j.toNat h2
 have hd:=zmQ ht1 i.toNat (by omega) (Rep.size α) rfl
 rw [hl] at hd
 refine za4 (fun w' _=>?_) (k _ hd)
 simp only [Instr.sliceAt,Instr.slice,Sem.run_bind,run_underlying ht,Result.andThen_ok,hb,zaO he]
 simp
def AtB {α:Type} [Rep α] (W w:World) (b o:Nat) (x:α):Prop:=∃ F cs,rep F W cs x∧w.rangeAt b o cs
theorem AtB.keep {W w':World} {b o:Nat} {x:α} (h:AtB W w b o x) (hb:w'.heap[b]?=w.heap[b]?):AtB W w' b o x:=by
 obtain ⟨F,cs,hr,ha⟩:=h;exact ⟨F,cs,hr,zcd ha hb⟩
theorem AtB.ext {W:World} {b o:Nat} {x:α} (h:AtB W w b o x) (hx:Ext w w'):AtB W w' b o x:=by
 obtain ⟨F,cs,hr,ha⟩:=h;exact ⟨F,cs,hr,zbp ha hx⟩
theorem AtB.at {W:World} {b o:Nat} {x:α} (h:AtB W w b o x) (hx:Ext W w):At w b o x:=by
 obtain ⟨F,cs,hr,ha⟩:=h;exact ⟨F,cs,zb4 hr hx,ha⟩
theorem AtB.snd {β:Type} [Rep β] {W:World} {b o:Nat} {p:α×β} (h:AtB W w b o p):AtB W w b (o+Rep.size α) p.2:=by
 obtain ⟨F,cs,⟨F1,F2,c1,c2,rfl,rfl,h1,h2⟩,hr⟩:=h
 have:=(zaN hr).2
 rw [Rep.len h1] at this
 exact ⟨F2,c2,h2,this⟩
theorem zjF {W:World} {t by_ b o:Nat} {x:α} {K:Value→Prop} (ht:tyI P t=some (Rep.size α,by_,Rep.agg α)) (h:AtB W w0 b o x) (hW:Ext W w0) (hx:Ext w0 w) (k:∀ v,Is W v x→K v) :
   RD P (Instr.loadAt t (.pointer (some ⟨b,o,none⟩))) w K:=by
 obtain ⟨F,cs,hr,hc⟩:=h
 exact za4 (fun w' hx'=>zd4 ht (zb4 hr (hW.trans (hx.trans hx'))) (zbp hc (hx.trans hx'))) (k _ ⟨F,cs,hr,rfl⟩)
theorem zf8 {W w1:World} {g:Nat} {x:α} {t:TypeId} (h:Is W v x) (hV:Var P t w1 g v) (ha:Rep.agg α=true):AtB W w1 g 0 x:=by
 obtain ⟨F,cs,hr,rfl⟩:=h
 obtain ⟨e,cs',_,hB,hv,_⟩:=hV
 have:cs'=cs:=by
   simp only [mkv,ha,cond_true,Value.agg.injEq] at hv
   have:=congrArg Array.toList hv
   simpa using this.symm
 subst this
 exact ⟨F,_,hr,hB.range⟩
theorem zna [RepZ α] {t:TypeId} {fs:Array Field} {K:Value→Prop} (hu:P.underlying t=some (.struct fs)) (hz:zcQ P t=some (RepZ.zc α)) (hf:(fs.toList.all fun f=>(P.info? f.type).isSome)=true) (ha:Rep.agg α=true)
   (k:∀ v,Is w v (RepZ.zv:α)→K v):RD P (Instr.build t #[]) w K:=by
 unfold zcQ at hz
 cases hi:P.info? t with
 | none=>simp [hi] at hz
 | some i=>
   simp only [hi] at hz
   obtain ⟨z,hz',hzc⟩:=Option.map_eq_some_iff.1 hz
   have hm:∀ w',∃ ps,(fs.mapM fun f=>do pure (f.offset,←sizeOf f.type):Sem (Array (Nat×Nat))).run P w'=.ok ps w':=by
     intro w'
     have:∀ l:List Field,(l.all fun f=>(P.info? f.type).isSome)=true→∃ ps,(l.mapM fun f=>do pure (f.offset,←sizeOf f.type):Sem (List (Nat×Nat))).run P w'=.ok ps w':=by
       intro l
       induction l with
       | nil=>intro _;exact ⟨[],by simp⟩
       | cons f l ih=>
         intro h
         simp only [List.all_cons,Bool.and_eq_true] at h
         obtain ⟨j,hj⟩:=Option.isSome_iff_exists.1 h.1
         obtain ⟨ps,hps⟩:=ih h.2
         have hsz:(sizeOf f.type).run P w'=.ok j.size w':=by simp [sizeOf,typeInfo,hj]
         exact ⟨(f.offset,j.size) :: ps,by simp only [List.mapM_cons,Sem.run_bind,hsz,Result.andThen_ok,Sem.run_pure,hps]⟩
     obtain ⟨ps,hps⟩:=this fs.toList hf
     exact ⟨ps.toArray,by rw [Array.mapM_eq_mapM_toList];simp only [map_eq_pure_bind,Sem.run_bind,hps,Result.andThen_ok,Sem.run_pure]⟩
   refine za4 (v:=mkv α (RepZ.zc α)) (fun w' _=>?_) (k _ ⟨[],_,RepZ.zr w,rfl⟩)
   obtain ⟨ps,hps⟩:=hm w'
   have e:z.cells=(RepZ.zc α).toArray:=by rw [←hzc]
   have hzv:(zeroValue t).run P w'=.ok z w':=by simp [zeroValue,typeInfo,hi,hz']
   simp only [Instr.build,Sem.run_bind,hzv,Result.andThen_ok,run_underlying hu,hps]
   simp [Instr.fill,mkv,ha,e]
end
end Go.Sh
namespace Go.Proofs.YtifonhplnmpgaaaGreat
open Go Go.Sh Go.Proofs
open Rep (rep)
def zbv:Nat→DTerm→Bool
 | n,.mk k num s ks=>
   if k=1 then decide (0≤num∧num≤1000000000)&&decide (s=ByteArray.mk #[])&&decide ((ks.length:Int)=0)
   else if k=2 then decide (num=0)&&zbr s&&decide ((ks.length:Int)=0)
   else decide (3≤k∧k≤9)&&decide (num=0)&&decide (s=ByteArray.mk #[])&&decide ((ks.length:Int)=if k=8 then 1 else 2) &&
     (match n with | 0=>false | m+1=>ks.all (zbv m))
theorem zdq {n:Nat} {t:DTerm} (h:t.kind=1):zbv n t=(decide (0≤t.num∧t.num≤1000000000)&&decide (t.name=ByteArray.mk #[])&&decide ((t.kids.length:Int)=0)):=by
 obtain ⟨k,num,s,ks⟩:=t
 have:k=1:=h
 unfold zbv;rw [if_pos this];rfl
theorem zeV {n:Nat} {t:DTerm} (h:t.kind=2):zbv n t=(decide (t.num=0)&&zbr t.name&&decide ((t.kids.length:Int)=0)):=by
 obtain ⟨k,num,s,ks⟩:=t
 have:k=2:=h
 unfold zbv;rw [if_neg (by omega),if_pos this];rfl
theorem zbc {n:Nat} {t:DTerm} (h1:¬t.kind=1) (h2:¬t.kind=2):zbv n t =
   (decide (3≤t.kind∧t.kind≤9)&&decide (t.num=0)&&decide (t.name=ByteArray.mk #[])&&decide ((t.kids.length:Int)=if t.kind=8 then 1 else 2)&&(match n with | 0=>false | m+1=>t.kids.all (zbv m))):=by
 obtain ⟨k,num,s,ks⟩:=t
 have h1:¬k=1:=h1
 have h2:¬k=2:=h2
 unfold zbv;rw [if_neg h1,if_neg h2];rfl
theorem zgG {α:Type} {p:α→Bool} {l:List α} {k:Nat} (hk:k<l.length) (h:(l.take k).all p=true) (hp:p l[k]=true):(l.take (k+1)).all p=true:=by
 rw [List.take_succ_eq_append_getElem hk,List.all_append,h];simp [hp]
theorem zfK {α:Type} {p:α→Bool} {l:List α} {k:Nat} (hk:k<l.length) (hp:p l[k]=false):l.all p=false:=by
 rw [List.all_eq_false];exact ⟨_,List.getElem_mem hk,by simp [hp]⟩
theorem zgH {α:Type} {p:α→Bool} {l:List α} {k:Nat} (hk:l.length≤k) (h:(l.take k).all p=true):l.all p=true:=by
 rwa [List.take_of_length_le hk] at h
def zri (f:Nat) (n:Nat):Prop:=∀ {w W:World} {v:Value} {t:DTerm} {d:Int},Is W v t→Ext W w→d=(n:Int) →
 CALL Tryz.prog f [v,.int .i64 d] w fun r w'=>Ext w w'∧r=.bool (zbv n t)
def F223 (a0 a1:Value) (w:World) (R:VW):Prop:=
 oP (Instr.box 109 a0) w fun x2 w=>
 JOIN [] (fun J18=>
 rF 109 x2 0 w fun x7=>
 rL 3 x7 w fun x8=>
 rB .eql 3 T0 U0 x8 (iV 1) w fun x10=>
 BR x10
 (rF 109 x2 1 w fun x11=>
 rL 3 x11 w fun x12=>
 rB .geq 3 T0 U0 x12 (iV 0) w fun x13=>
 BR x13
 (rF 109 x2 1 w fun x15=>
 rL 3 x15 w fun x16=>
 rB .leq 3 T0 U0 x16 (iV 1000000000) w fun x17=>
 BR x17
 (rF 109 x2 2 w fun x20=>
 rL 9 x20 w fun x21=>
 rB .eql 9 T0 U0 x21 (Value.string (ByteArray.mk #[])) w fun x22=>
 BR x22
 (rF 109 x2 3 w fun x25=>
 rL 107 x25 w fun x26=>
 rN 107 3 x26 w fun x27=>
 rB .eql 3 T0 U0 x27 (iV 0) w fun x28=>
 R x28 w)
 (R (Value.bool false) w))
 (R (Value.bool false) w))
 (R (Value.bool false) w))
 (rB .eql 3 T0 U0 x8 (iV 2) w fun x31=>
 BR x31
 (rF 109 x2 1 w fun x32=>
 rL 3 x32 w fun x33=>
 rB .eql 3 T0 U0 x33 (iV 0) w fun x34=>
 BR x34
 (rF 109 x2 2 w fun x36=>
 rL 9 x36 w fun x37=>
 cL 222 [x37] w fun x38 w=>
 BR x38
 (rF 109 x2 3 w fun x41=>
 rL 107 x41 w fun x42=>
 rN 107 3 x42 w fun x43=>
 rB .eql 3 T0 U0 x43 (iV 0) w fun x44=>
 R x44 w)
 (R (Value.bool false) w))
 (R (Value.bool false) w))
 (rB .eql 3 T0 U0 x8 (iV 3) w fun x47=>
 BR x47
 (rF 109 x2 3 w fun x53=>
 rL 107 x53 w fun x54=>
 rN 107 3 x54 w fun x55=>
 rB .neq 3 T0 U0 x55 (iV 2) w fun x56=>
 BR x56
 (R (Value.bool false) w)
 (J18 [] w))
 (rB .eql 3 T0 U0 x8 (iV 4) w fun x48=>
 BR x48
 (rF 109 x2 3 w fun x53=>
 rL 107 x53 w fun x54=>
 rN 107 3 x54 w fun x55=>
 rB .neq 3 T0 U0 x55 (iV 2) w fun x56=>
 BR x56
 (R (Value.bool false) w)
 (J18 [] w))
 (rB .eql 3 T0 U0 x8 (iV 5) w fun x49=>
 BR x49
 (rF 109 x2 3 w fun x53=>
 rL 107 x53 w fun x54=>
 rN 107 3 x54 w fun x55=>
 rB .neq 3 T0 U0 x55 (iV 2) w fun x56=>
 BR x56
 (R (Value.bool false) w)
 (J18 [] w))
 (rB .eql 3 T0 U0 x8 (iV 6) w fun x50=>
 BR x50
 (rF 109 x2 3 w fun x53=>
 rL 107 x53 w fun x54=>
 rN 107 3 x54 w fun x55=>
 rB .neq 3 T0 U0 x55 (iV 2) w fun x56=>
 BR x56
 (R (Value.bool false) w)
 (J18 [] w))
 (rB .eql 3 T0 U0 x8 (iV 7) w fun x51=>
 BR x51
 (rF 109 x2 3 w fun x53=>
 rL 107 x53 w fun x54=>
 rN 107 3 x54 w fun x55=>
 rB .neq 3 T0 U0 x55 (iV 2) w fun x56=>
 BR x56
 (R (Value.bool false) w)
 (J18 [] w))
 (rB .eql 3 T0 U0 x8 (iV 9) w fun x52=>
 BR x52
 (rF 109 x2 3 w fun x53=>
 rL 107 x53 w fun x54=>
 rN 107 3 x54 w fun x55=>
 rB .neq 3 T0 U0 x55 (iV 2) w fun x56=>
 BR x56
 (R (Value.bool false) w)
 (J18 [] w))
 (rB .eql 3 T0 U0 x8 (iV 8) w fun x58=>
 BR x58
 (rF 109 x2 3 w fun x59=>
 rL 107 x59 w fun x60=>
 rN 107 3 x60 w fun x61=>
 rB .neq 3 T0 U0 x61 (iV 1) w fun x62=>
 BR x62
 (R (Value.bool false) w)
 (J18 [] w))
 (R (Value.bool false) w)))))))))) (fun u18 w=>
 rF 109 x2 1 w fun x63=>
 rL 3 x63 w fun x64=>
 rB .neq 3 T0 U0 x64 (iV 0) w fun x65=>
 BR x65
 (R (Value.bool false) w)
 (rF 109 x2 2 w fun x67=>
 rL 9 x67 w fun x68=>
 rB .neq 9 T0 U0 x68 (Value.string (ByteArray.mk #[])) w fun x69=>
 BR x69
 (R (Value.bool false) w)
 (rB .eql 3 T0 U0 a1 (iV 0) w fun x73=>
 BR x73
 (R (Value.bool false) w)
 (rF 109 x2 3 w fun x75=>
 rL 107 x75 w fun x76=>
 rN 107 3 x76 w fun x77=>
 LOOPI [78] [(iV 0)] w fun u21 w next21=>
 rC (u21 78) x77 w fun x79=>
 BR x79
 (rX 107 x76 (u21 78) w fun x80=>
 rL 109 x80 w fun x81=>
 oP (Instr.alloc 109 true (.tuple #[])) w fun x6 w=>
 oS 109 x6 x81 w fun w=>
 rL 109 x6 w fun x82=>
 rB .sub 3 T0 U0 a1 (iV 1) w fun x84=>
 cL 223 [x82,x84] w fun x85 w=>
 rD (Op.unary .not x85) w fun x86=>
 BR x86
 (R (Value.bool false) w)
 (rA (u21 78) (iV 1) w fun x87=>
 next21 [x87] w))
 (R (Value.bool true) w)))))
def cfg223:Cfg:=⟨extL,[(18,9223372036854775696,[])],[(21,309182778366441411431104592,[78])],[],[],[],[]⟩
theorem F223_call {a0 a1:Value} {w:World} {R:VW} (h:F223 a0 a1 w R):cL 223 [a0,a1] w R:=co (g:=cfg223) Tryz.func223 (by kernel_rfl) (by kernel_rfl) (by kernel_rfl) h
theorem zix {w:World} {v0:Value} {W0:World} {t:DTerm} {d:Int} {n:Nat} (h0:Is W0 v0 t) (e0:Ext W0 w) (hd:d=(n:Int)) (ih:∀ m,m+1=n→zri 223 m) (hn:n≤6) :
   CALL Tryz.prog 223 [v0,.int .i64 d] w fun r w'=>Ext w w'∧(r=.bool (zbv n t)):=by
 refine F223_call ?_
 unfold F223
 refine zaB zbf rfl h0 e0 fun w1_ hx1_ hA2 hV2=>?_
 refine JOIN.mk (fun us w'=>us=[]∧Ext w1_ w'∧(3≤t.kind∧t.kind≤9∧(t.kids.length:Int)=(if t.kind=8 then 1 else 2))) ?_ ?_
 · refine zaa zcn ?_
   refine zac ty3 (zbx hA2) (Ext.refl w1_) fun hI8=>?_
   refine zaq ?_
   refine br (fun c1=>?_) (fun c1=>?_)
   · refine zaa zca ?_
     refine zac ty3 (zbn hA2) (Ext.refl w1_) fun hI12=>?_
     refine zci ?_
     refine br (fun c2=>?_) (fun c2=>?_)
     · refine zaa zca ?_
       refine zac ty3 (zbn hA2) (Ext.refl w1_) fun hI16=>?_
       refine zcU ?_
       refine br (fun c3=>?_) (fun c3=>?_)
       · refine zaa zbW ?_
         refine zaE ty9 (za5 hA2) (Ext.refl w1_) fun hS21=>?_
         refine zaV ?_
         refine br (fun c4=>?_) (fun c4=>?_)
         · refine zaa za9 ?_
           refine zab zcr (zaF hA2) (Ext.refl w1_) fun v26 h26=>?_
           have hln27:=zal h26
           refine zaf zer h26 ?_
           refine zaq ?_
           refine ⟨hx1_,?_⟩
           rw [zdq c1];simp only [c2,c3,c4,and_self,decide_true,Bool.true_and]
         refine ⟨hx1_,?_⟩
         rw [zdq c1];simp only [c4,decide_false,Bool.and_false,Bool.false_and]
       refine ⟨hx1_,?_⟩
       rw [zdq c1];simp only [c3,and_false,decide_false,Bool.false_and]
     refine ⟨hx1_,?_⟩
     rw [zdq c1];simp only [c2,false_and,decide_false,Bool.false_and]
   refine zaq ?_
   refine br (fun c5=>?_) (fun c5=>?_)
   · refine zaa zca ?_
     refine zac ty3 (zbn hA2) (Ext.refl w1_) fun hI33=>?_
     refine zaq ?_
     refine br (fun c6=>?_) (fun c6=>?_)
     · refine zaa zbW ?_
       refine zaE ty9 (za5 hA2) (Ext.refl w1_) fun hS37=>?_
       refine (zfI ).mono ?_
       rintro _ w3_ ⟨hx3_,rfl⟩
       refine zbI (fun c7=>?_) (fun c7=>?_)
       · refine zaa za9 ?_
         refine zab zcr (zaF hA2) hx3_ fun v42 h42=>?_
         have hln43:=zal h42
         refine zaf zer h42 ?_
         refine zaq ?_
         refine ⟨(hx1_.trans hx3_),?_⟩
         rw [zeV c5];simp only [c6,c7,decide_true,Bool.true_and]
       refine ⟨(hx1_.trans hx3_),?_⟩
       rw [zeV c5];simp only [c6,c7,decide_true,Bool.true_and,Bool.false_and]
     refine ⟨hx1_,?_⟩
     rw [zeV c5];simp only [c6,decide_false,Bool.false_and]
   refine zaq ?_
   refine br (fun c8=>?_) (fun c8=>?_)
   · refine zaa za9 ?_
     refine zab zcr (zaF hA2) (Ext.refl w1_) fun v54 h54=>?_
     have hln55:=zal h54
     refine zaf zer h54 ?_
     refine zaz ?_
     refine br (fun c9=>?_) (fun c9=>?_)
     · refine ⟨hx1_,?_⟩
       rw [zbc c1 c5];simp [show ¬t.kind=8 by omega,show ¬(t.kids.length:Int)=2 from c9]
     refine ⟨by simp,Ext.refl w1_,?_⟩
     split<;>omega
   refine zaq ?_
   refine br (fun c10=>?_) (fun c10=>?_)
   · refine zaa za9 ?_
     refine zab zcr (zaF hA2) (Ext.refl w1_) fun v54 h54=>?_
     have hln55:=zal h54
     refine zaf zer h54 ?_
     refine zaz ?_
     refine br (fun c11=>?_) (fun c11=>?_)
     · refine ⟨hx1_,?_⟩
       rw [zbc c1 c5];simp [show ¬t.kind=8 by omega,show ¬(t.kids.length:Int)=2 from c11]
     refine ⟨by simp,Ext.refl w1_,?_⟩
     split<;>omega
   refine zaq ?_
   refine br (fun c12=>?_) (fun c12=>?_)
   · refine zaa za9 ?_
     refine zab zcr (zaF hA2) (Ext.refl w1_) fun v54 h54=>?_
     have hln55:=zal h54
     refine zaf zer h54 ?_
     refine zaz ?_
     refine br (fun c13=>?_) (fun c13=>?_)
     · refine ⟨hx1_,?_⟩
       rw [zbc c1 c5];simp [show ¬t.kind=8 by omega,show ¬(t.kids.length:Int)=2 from c13]
     refine ⟨by simp,Ext.refl w1_,?_⟩
     split<;>omega
   refine zaq ?_
   refine br (fun c14=>?_) (fun c14=>?_)
   · refine zaa za9 ?_
     refine zab zcr (zaF hA2) (Ext.refl w1_) fun v54 h54=>?_
     have hln55:=zal h54
     refine zaf zer h54 ?_
     refine zaz ?_
     refine br (fun c15=>?_) (fun c15=>?_)
     · refine ⟨hx1_,?_⟩
       rw [zbc c1 c5];simp [show ¬t.kind=8 by omega,show ¬(t.kids.length:Int)=2 from c15]
     refine ⟨by simp,Ext.refl w1_,?_⟩
     split<;>omega
   refine zaq ?_
   refine br (fun c16=>?_) (fun c16=>?_)
   · refine zaa za9 ?_
     refine zab zcr (zaF hA2) (Ext.refl w1_) fun v54 h54=>?_
     have hln55:=zal h54
     refine zaf zer h54 ?_
     refine zaz ?_
     refine br (fun c17=>?_) (fun c17=>?_)
     · refine ⟨hx1_,?_⟩
       rw [zbc c1 c5];simp [show ¬t.kind=8 by omega,show ¬(t.kids.length:Int)=2 from c17]
     refine ⟨by simp,Ext.refl w1_,?_⟩
     split<;>omega
   refine zaq ?_
   refine br (fun c18=>?_) (fun c18=>?_)
   · refine zaa za9 ?_
     refine zab zcr (zaF hA2) (Ext.refl w1_) fun v54 h54=>?_
     have hln55:=zal h54
     refine zaf zer h54 ?_
     refine zaz ?_
     refine br (fun c19=>?_) (fun c19=>?_)
     · refine ⟨hx1_,?_⟩
       rw [zbc c1 c5];simp [show ¬t.kind=8 by omega,show ¬(t.kids.length:Int)=2 from c19]
     refine ⟨by simp,Ext.refl w1_,?_⟩
     split<;>omega
   refine zaq ?_
   refine br (fun c20=>?_) (fun c20=>?_)
   · refine zaa za9 ?_
     refine zab zcr (zaF hA2) (Ext.refl w1_) fun v60 h60=>?_
     have hln61:=zal h60
     refine zaf zer h60 ?_
     refine zaz ?_
     refine br (fun c21=>?_) (fun c21=>?_)
     · refine ⟨hx1_,?_⟩
       rw [zbc c1 c5];simp [c20,show ¬(t.kids.length:Int)=1 from c21]
     refine ⟨by simp,Ext.refl w1_,?_⟩
     split<;>omega
   refine ⟨hx1_,?_⟩
   rw [zbc c1 c5];simp [show ¬(3≤t.kind∧t.kind≤9) by omega]
 rintro uj18 w2_ ⟨hu,hx3_,hk1,hk2,hk3⟩
 simp only [List.map_cons,List.map_nil,List.cons.injEq,and_true] at hu
 clear hu
 refine zaa zca ?_
 refine zac ty3 (zbn hA2) hx3_ fun hI64=>?_
 refine zaz ?_
 refine br (fun c22=>?_) (fun c22=>?_)
 · refine ⟨(hx1_.trans hx3_),?_⟩
   rw [zbc (by omega) (by omega)];simp [c22]
 refine zaa zbW ?_
 refine zaE ty9 (za5 hA2) hx3_ fun hS68=>?_
 refine zgY ?_
 refine br (fun c23=>?_) (fun c23=>?_)
 · refine ⟨(hx1_.trans hx3_),?_⟩
   rw [zbc (by omega) (by omega)];simp [c23]
 refine zaq ?_
 refine br (fun c24=>?_) (fun c24=>?_)
 · refine ⟨(hx1_.trans hx3_),?_⟩
   rw [zbc (by omega) (by omega)];simp [show n=0 by omega]
 refine zaa za9 ?_
 refine zab zcr (zaF hA2) hx3_ fun v76 h76=>?_
 have hln77:=zal h76
 refine zaf zer h76 ?_
 refine zas (t.kids.length) (fun k us w'=>us=[.int .i64 (k:Int)]∧Ext w2_ w'∧((t.kids.take k).all (zbv (n-1))=true)) (0) (by omega) ⟨by simp,Ext.refl w2_,by simp⟩ ?_
 rintro k m21 uu21 w4_ hk21 ⟨hu,hx4_,hinv⟩
 simp only [List.map_cons,List.map_nil,List.cons.injEq,and_true] at hu
 try rw [hu]
 try clear hu
 refine zah ?_
 refine br (fun c25=>?_) (fun c25=>?_)
 · refine zad zer zbf h76 (by omega) fun b80 o80 h80=>?_
   refine zab zbf h80 (hx3_.trans hx4_) fun v81 h81=>?_
   refine zce zmU rfl zbf rfl h81 (hx3_.trans hx4_) fun w5_ hx5_ hA6 hV6=>?_
   refine zbD hV6 (Ext.refl w5_) ?_
   refine zbC (by unfold I64;omega) ?_
   refine (ih (n-1) (by omega) h81 (hx3_.trans (hx4_.trans hx5_)) (by omega)).mono ?_
   rintro _ w6_ ⟨hx6_,rfl⟩
   refine za0 ?_
   refine zbI (fun c26=>?_) (fun c26=>?_)
   · refine ⟨(hx1_.trans (hx3_.trans (hx4_.trans (hx5_.trans hx6_)))),?_⟩
     rw [zbc (by omega) (by omega)]
     obtain ⟨m,rfl⟩:∃ m,n=m+1:=⟨n-1,by omega⟩
     rw [Bool.not_eq_true',Nat.add_sub_cancel] at c26
     simp only [zfK (by omega) c26,Bool.and_false]
   have hln:=zal h76
   refine zag (by omega) ?_
   refine ⟨m21-1,by omega,k+1,by omega,by simp,(hx4_.trans (hx5_.trans hx6_)),?_⟩
   exact zgG (by omega) hinv (by simpa using c26)
 refine ⟨(hx1_.trans (hx3_.trans hx4_)),?_⟩
 rw [zbc (by omega) (by omega)]
 obtain ⟨m,rfl⟩:∃ m,n=m+1:=⟨n-1,by omega⟩
 rw [Nat.add_sub_cancel] at hinv
 simp only [show 3≤t.kind∧t.kind≤9 from ⟨hk1,hk2⟩,Decidable.not_not.1 c22,Decidable.not_not.1 c23,hk3,zgH (by omega) hinv,and_self,decide_true,Bool.and_self]
theorem zhe:∀ (n:Nat),n≤6→zri 223 n
 | n,hn=>by intro h e hd;exact zix h e hd (fun m hm=>zhe m (by omega)) hn
def F184 (a0:Value) (w:World) (R:VW):Prop:=
 oP (Instr.box 109 a0) w fun x1 w=>
 rL 109 x1 w fun x3=>
 cL 223 [x3,(iV 6)] w fun x4 w=>
 R x4 w
def cfg184:Cfg:=⟨extL,[],[],[],[],[],[]⟩
theorem F184_call {a0:Value} {w:World} {R:VW} (h:F184 a0 w R):cL 184 [a0] w R:=co (g:=cfg184) Tryz.func184 (by kernel_rfl) (by kernel_rfl) (by kernel_rfl) h
theorem zd7 {w:World} {v0:Value} {W0:World} {t:DTerm}  (h0:Is W0 v0 t) (e0:Ext W0 w)  :
   CALL Tryz.prog 184 [v0] w fun r w'=>Ext w w'∧(r=.bool (zbv 6 t)):=by
 refine F184_call ?_
 unfold F184
 refine zaB zbf rfl h0 e0 fun w1_ hx1_ hA1 hV1=>?_
 refine zbD hV1 (Ext.refl w1_) ?_
 refine ((zhe 6 (by omega)) h0 (e0.trans hx1_) rfl).mono ?_
 rintro _ w2_ ⟨hx2_,rfl⟩
 refine ⟨(hx1_.trans hx2_),?_⟩
 rfl
def F174 (a0 a1:Value) (w:World) (R:VW):Prop:=
 oP (Instr.box 109 a0) w fun x2 w=>
 rF 109 x2 0 w fun x7=>
 rL 3 x7 w fun x8=>
 rB .eql 3 T0 U0 x8 (iV 1) w fun x10=>
 BR x10
 (rF 109 x2 1 w fun x11=>
 rL 3 x11 w fun x12=>
 cL 125 [x12,(iV 0),(iV 1000000000)] w fun x13 w=>
 BR x13
 (rF 109 x2 2 w fun x15=>
 rL 9 x15 w fun x16=>
 rB .eql 9 T0 U0 x16 (Value.string (ByteArray.mk #[])) w fun x17=>
 BR x17
 (rF 109 x2 3 w fun x20=>
 rL 107 x20 w fun x21=>
 rN 107 3 x21 w fun x22=>
 rB .eql 3 T0 U0 x22 (iV 0) w fun x23=>
 R x23 w)
 (R (Value.bool false) w))
 (R (Value.bool false) w))
 (rB .eql 3 T0 U0 x8 (iV 2) w fun x26=>
 BR x26
 (rF 109 x2 1 w fun x27=>
 rL 3 x27 w fun x28=>
 rB .eql 3 T0 U0 x28 (iV 0) w fun x29=>
 BR x29
 (rF 109 x2 2 w fun x31=>
 rL 9 x31 w fun x32=>
 cL 173 [x32] w fun x33 w=>
 BR x33
 (rF 109 x2 3 w fun x36=>
 rL 107 x36 w fun x37=>
 rN 107 3 x37 w fun x38=>
 rB .eql 3 T0 U0 x38 (iV 0) w fun x39=>
 R x39 w)
 (R (Value.bool false) w))
 (R (Value.bool false) w))
 (JOIN [5] (fun J9=>
 rF 109 x2 0 w fun x41=>
 rL 3 x41 w fun x42=>
 rB .eql 3 T0 U0 x42 (iV 8) w fun x43=>
 BR x43
 (J9 [(iV 1)] w)
 (J9 [(iV 2)] w)) (fun u9 w=>
 rF 109 x2 0 w fun x44=>
 rL 3 x44 w fun x45=>
 cL 125 [x45,(iV 3),(iV 9)] w fun x46 w=>
 rD (Op.unary .not x46) w fun x47=>
 BR x47
 (R (Value.bool false) w)
 (rF 109 x2 1 w fun x49=>
 rL 3 x49 w fun x50=>
 rB .neq 3 T0 U0 x50 (iV 0) w fun x51=>
 BR x51
 (R (Value.bool false) w)
 (rF 109 x2 2 w fun x54=>
 rL 9 x54 w fun x55=>
 rB .neq 9 T0 U0 x55 (Value.string (ByteArray.mk #[])) w fun x56=>
 BR x56
 (R (Value.bool false) w)
 (rF 109 x2 3 w fun x59=>
 rL 107 x59 w fun x60=>
 rN 107 3 x60 w fun x61=>
 rB .neq 3 T0 T0 x61 (u9 5) w fun x63=>
 BR x63
 (R (Value.bool false) w)
 (rB .eql 3 T0 U0 a1 (iV 0) w fun x67=>
 BR x67
 (R (Value.bool false) w)
 (LOOPI [6] [(iV 0)] w fun u12 w next12=>
 rF 109 x2 3 w fun x70=>
 rL 107 x70 w fun x71=>
 rN 107 3 x71 w fun x72=>
 rC (u12 6) x72 w fun x73=>
 BR x73
 (rF 109 x2 3 w fun x76=>
 rL 107 x76 w fun x77=>
 rX 107 x77 (u12 6) w fun x79=>
 rL 109 x79 w fun x80=>
 rB .sub 3 T0 U0 a1 (iV 1) w fun x82=>
 cL 174 [x80,x82] w fun x83 w=>
 rD (Op.unary .not x83) w fun x84=>
 BR x84
 (R (Value.bool false) w)
 (rA (u12 6) (iV 1) w fun x75=>
 next12 [x75] w))
 (R (Value.bool true) w)))))))))
def cfg174:Cfg:=⟨extL,[(9,15393162788896,[5])],[(12,38685035931857774884946000,[6])],[],[],[],[]⟩
theorem F174_call {a0 a1:Value} {w:World} {R:VW} (h:F174 a0 a1 w R):cL 174 [a0,a1] w R:=co (g:=cfg174) Tryz.func174 (by kernel_rfl) (by kernel_rfl) (by kernel_rfl) h
theorem ziy {w:World} {v0:Value} {W0:World} {t:DTerm} {d:Int} {n:Nat} (h0:Is W0 v0 t) (e0:Ext W0 w) (hd:d=(n:Int)) (ih:∀ m,m+1=n→zri 174 m) (hn:n≤6) :
   CALL Tryz.prog 174 [v0,.int .i64 d] w fun r w'=>Ext w w'∧(r=.bool (zbv n t)):=by
 refine F174_call ?_
 unfold F174
 refine zaB zbf rfl h0 e0 fun w1_ hx1_ hA2 hV2=>?_
 refine zaa zcn ?_
 refine zac ty3 (zbx hA2) (Ext.refl w1_) fun hI8=>?_
 refine zaq ?_
 refine br (fun c1=>?_) (fun c1=>?_)
 · refine zaa zca ?_
   refine zac ty3 (zbn hA2) (Ext.refl w1_) fun hI12=>?_
   refine (zeT ).mono ?_
   rintro _ w2_ ⟨hx2_,rfl⟩
   refine br (fun c2=>?_) (fun c2=>?_)
   · refine zaa zbW ?_
     refine zaE ty9 (za5 hA2) hx2_ fun hS16=>?_
     refine zaV ?_
     refine br (fun c3=>?_) (fun c3=>?_)
     · refine zaa za9 ?_
       refine zab zcr (zaF hA2) hx2_ fun v21 h21=>?_
       have hln22:=zal h21
       refine zaf zer h21 ?_
       refine zaq ?_
       refine ⟨(hx1_.trans hx2_),?_⟩
       rw [zdq c1];simp only [c2,c3,and_self,decide_true,Bool.true_and]
     refine ⟨(hx1_.trans hx2_),?_⟩
     rw [zdq c1];simp only [c3,decide_false,Bool.and_false,Bool.false_and]
   refine ⟨(hx1_.trans hx2_),?_⟩
   rw [zdq c1];simp only [c2,decide_false,Bool.false_and]
 refine zaq ?_
 refine br (fun c4=>?_) (fun c4=>?_)
 · refine zaa zca ?_
   refine zac ty3 (zbn hA2) (Ext.refl w1_) fun hI28=>?_
   refine zaq ?_
   refine br (fun c5=>?_) (fun c5=>?_)
   · refine zaa zbW ?_
     refine zaE ty9 (za5 hA2) (Ext.refl w1_) fun hS32=>?_
     refine (zfH ).mono ?_
     rintro _ w3_ ⟨hx3_,rfl⟩
     refine zbI (fun c6=>?_) (fun c6=>?_)
     · refine zaa za9 ?_
       refine zab zcr (zaF hA2) hx3_ fun v37 h37=>?_
       have hln38:=zal h37
       refine zaf zer h37 ?_
       refine zaq ?_
       refine ⟨(hx1_.trans hx3_),?_⟩
       rw [zeV c4];simp only [c5,c6,decide_true,Bool.true_and]
     refine ⟨(hx1_.trans hx3_),?_⟩
     rw [zeV c4];simp only [c5,c6,decide_true,Bool.true_and,Bool.false_and]
   refine ⟨hx1_,?_⟩
   rw [zeV c4];simp only [c5,decide_false,Bool.false_and]
 refine JOIN.mk (fun us w'=>us=[.int .i64 (if t.kind=8 then 1 else 2)]∧Ext w1_ w'∧(True)) ?_ ?_
 · refine zaa zcn ?_
   refine zac ty3 (zbx hA2) (Ext.refl w1_) fun hI42=>?_
   refine zaq ?_
   refine br (fun c7=>?_) (fun c7=>?_)
   · refine ⟨by rw [if_pos c7],Ext.refl w1_,?_⟩
     trivial
   refine ⟨by rw [if_neg c7],Ext.refl w1_,?_⟩
   trivial
 rintro uj9 w4_ ⟨hu,hx4_,hinv⟩
 simp only [List.map_cons,List.map_nil,List.cons.injEq,and_true] at hu
 try rw [hu]
 try clear hu
 refine zaa zcn ?_
 refine zac ty3 (zbx hA2) hx4_ fun hI45=>?_
 refine (zeT ).mono ?_
 rintro _ w5_ ⟨hx5_,rfl⟩
 refine zaA ?_
 refine br (fun c8=>?_) (fun c8=>?_)
 · refine ⟨(hx1_.trans (hx4_.trans hx5_)),?_⟩
   rw [zbc c1 c4];simp only [c8,decide_false,Bool.false_and]
 refine zaa zca ?_
 refine zac ty3 (zbn hA2) (hx4_.trans hx5_) fun hI50=>?_
 refine zaz ?_
 refine br (fun c9=>?_) (fun c9=>?_)
 · refine ⟨(hx1_.trans (hx4_.trans hx5_)),?_⟩
   rw [zbc c1 c4];simp only [show ¬t.num=0 from c9,decide_false,Bool.false_and,Bool.and_false]
 refine zaa zbW ?_
 refine zaE ty9 (za5 hA2) (hx4_.trans hx5_) fun hS55=>?_
 refine zgY ?_
 refine br (fun c10=>?_) (fun c10=>?_)
 · refine ⟨(hx1_.trans (hx4_.trans hx5_)),?_⟩
   rw [zbc c1 c4];simp only [show ¬t.name=_ from c10,decide_false,Bool.false_and,Bool.and_false]
 refine zaa za9 ?_
 refine zab zcr (zaF hA2) (hx4_.trans hx5_) fun v60 h60=>?_
 have hln61:=zal h60
 refine zaf zer h60 ?_
 refine zaz ?_
 refine br (fun c11=>?_) (fun c11=>?_)
 · refine ⟨(hx1_.trans (hx4_.trans hx5_)),?_⟩
   rw [zbc c1 c4];simp only [show ¬(t.kids.length:Int)=_ from c11,decide_false,Bool.false_and,Bool.and_false]
 refine zaq ?_
 refine br (fun c12=>?_) (fun c12=>?_)
 · refine ⟨(hx1_.trans (hx4_.trans hx5_)),?_⟩
   rw [zbc c1 c4];simp [show n=0 by omega]
 refine zas (t.kids.length) (fun k us w'=>us=[.int .i64 (k:Int)]∧Ext w5_ w'∧((t.kids.take k).all (zbv (n-1))=true)) (0) (by omega) ⟨by simp,Ext.refl w5_,by simp⟩ ?_
 rintro k m12 uu12 w6_ hk12 ⟨hu,hx6_,hinv⟩
 simp only [List.map_cons,List.map_nil,List.cons.injEq,and_true] at hu
 try rw [hu]
 try clear hu
 refine zaa za9 ?_
 refine zab zcr (zaF hA2) (hx4_.trans (hx5_.trans hx6_)) fun v71 h71=>?_
 have hln72:=zal h71
 refine zaf zer h71 ?_
 refine zah ?_
 refine br (fun c13=>?_) (fun c13=>?_)
 · refine zaa za9 ?_
   refine zab zcr (zaF hA2) (hx4_.trans (hx5_.trans hx6_)) fun v77 h77=>?_
   refine zad zer zbf h77 (by omega) fun b79 o79 h79=>?_
   refine zab zbf h79 (hx4_.trans (hx5_.trans hx6_)) fun v80 h80=>?_
   refine zbC (by unfold I64;omega) ?_
   refine (ih (n-1) (by omega) h80 (hx4_.trans (hx5_.trans hx6_)) (by omega)).mono ?_
   rintro _ w7_ ⟨hx7_,rfl⟩
   refine za0 ?_
   refine zbI (fun c14=>?_) (fun c14=>?_)
   · refine ⟨(hx1_.trans (hx4_.trans (hx5_.trans (hx6_.trans hx7_)))),?_⟩
     rw [zbc c1 c4]
     obtain ⟨m,rfl⟩:∃ m,n=m+1:=⟨n-1,by omega⟩
     rw [Bool.not_eq_true',Nat.add_sub_cancel] at c14
     simp only [zfK (by omega) c14,Bool.and_false]
   have hln:=zal h71
   refine zag (by omega) ?_
   refine ⟨m12-1,by omega,k+1,by omega,by simp,(hx6_.trans hx7_),?_⟩
   exact zgG (by omega) hinv (by simpa using c14)
 refine ⟨(hx1_.trans (hx4_.trans (hx5_.trans hx6_))),?_⟩
 rw [zbc c1 c4]
 obtain ⟨m,rfl⟩:∃ m,n=m+1:=⟨n-1,by omega⟩
 rw [Nat.add_sub_cancel] at hinv
 simp only [Decidable.not_not.1 c8,Decidable.not_not.1 c9,Decidable.not_not.1 c10,Decidable.not_not.1 c11,zgH (by omega) hinv,and_self,decide_true,Bool.and_self]
theorem zhf:∀ (n:Nat),n≤6→zri 174 n
 | n,hn=>by intro h e hd;exact ziy h e hd (fun m hm=>zhf m (by omega)) hn
def F126 (a0:Value) (w:World) (R:VW):Prop:=
 oP (Instr.box 109 a0) w fun x1 w=>
 rL 109 x1 w fun x3=>
 cL 174 [x3,(iV 6)] w fun x4 w=>
 R x4 w
def cfg126:Cfg:=⟨extL,[],[],[],[],[],[]⟩
theorem F126_call {a0:Value} {w:World} {R:VW} (h:F126 a0 w R):cL 126 [a0] w R:=co (g:=cfg126) Tryz.func126 (by kernel_rfl) (by kernel_rfl) (by kernel_rfl) h
theorem zd8 {w:World} {v0:Value} {W0:World} {t:DTerm}  (h0:Is W0 v0 t) (e0:Ext W0 w)  :
   CALL Tryz.prog 126 [v0] w fun r w'=>Ext w w'∧(r=.bool (zbv 6 t)):=by
 refine F126_call ?_
 unfold F126
 refine zaB zbf rfl h0 e0 fun w1_ hx1_ hA1 hV1=>?_
 refine zbD hV1 (Ext.refl w1_) ?_
 refine ((zhf 6 (by omega)) h0 (e0.trans hx1_) rfl).mono ?_
 rintro _ w2_ ⟨hx2_,rfl⟩
 refine ⟨(hx1_.trans hx2_),?_⟩
 rfl
def term0:DTerm:=.mk 0 0 (ByteArray.mk #[]) []
def F185 (a0:Value) (w:World) (R:VW):Prop:=
 oP (Instr.box 109 a0) w fun x1 w=>
 rF 109 x1 0 w fun x3=>
 rL 3 x3 w fun x4=>
 rB .eql 3 T0 U0 x4 (iV 0) w fun x5=>
 BR x5
 (rF 109 x1 1 w fun x7=>
 rL 3 x7 w fun x8=>
 rB .eql 3 T0 U0 x8 (iV 0) w fun x9=>
 BR x9
 (rF 109 x1 2 w fun x12=>
 rL 9 x12 w fun x13=>
 rB .eql 9 T0 U0 x13 (Value.string (ByteArray.mk #[])) w fun x14=>
 BR x14
 (rF 109 x1 3 w fun x17=>
 rL 107 x17 w fun x18=>
 rN 107 3 x18 w fun x19=>
 rB .eql 3 T0 U0 x19 (iV 0) w fun x20=>
 R x20 w)
 (R (Value.bool false) w))
 (R (Value.bool false) w))
 (R (Value.bool false) w)
def cfg185:Cfg:=⟨extL,[],[],[],[],[],[]⟩
theorem F185_call {a0:Value} {w:World} {R:VW} (h:F185 a0 w R):cL 185 [a0] w R:=co (g:=cfg185) Tryz.func185 (by kernel_rfl) (by kernel_rfl) (by kernel_rfl) h
theorem ziz {w:World} {v0:Value} {W0:World} {t:DTerm}  (h0:Is W0 v0 t) (e0:Ext W0 w)  :
   CALL Tryz.prog 185 [v0] w fun r w'=>Ext w w'∧(r=.bool (decide (t=term0))):=by
 refine F185_call ?_
 unfold F185
 refine zaB zbf rfl h0 e0 fun w1_ hx1_ hA1 hV1=>?_
 refine zaa zcn ?_
 refine zac ty3 (zbx hA1) (Ext.refl w1_) fun hI4=>?_
 refine zaq ?_
 refine br (fun c1=>?_) (fun c1=>?_)
 · refine zaa zca ?_
   refine zac ty3 (zbn hA1) (Ext.refl w1_) fun hI8=>?_
   refine zaq ?_
   refine br (fun c2=>?_) (fun c2=>?_)
   · refine zaa zbW ?_
     refine zaE ty9 (za5 hA1) (Ext.refl w1_) fun hS13=>?_
     refine zaV ?_
     refine br (fun c3=>?_) (fun c3=>?_)
     · refine zaa za9 ?_
       refine zab zcr (zaF hA1) (Ext.refl w1_) fun v18 h18=>?_
       have hln19:=zal h18
       refine zaf zer h18 ?_
       refine zaq ?_
       refine ⟨hx1_,?_⟩
       congr 1
       rw [decide_eq_decide,DTerm.ext_iff]
       exact ⟨fun h=>⟨c1,c2,c3,List.eq_nil_of_length_eq_zero (by omega)⟩,fun h=>by rw [h.2.2.2];rfl⟩
     refine ⟨hx1_,?_⟩
     have:t≠term0:=fun e=>c3 (by rw [e];rfl)
     simp [this]
   refine ⟨hx1_,?_⟩
   have:t≠term0:=fun e=>c2 (by rw [e];rfl)
   simp [this]
 refine ⟨hx1_,?_⟩
 have:t≠term0:=fun e=>c1 (by rw [e];rfl)
 simp [this]
def F128 (a0 a1:Value) (w:World) (R:VW):Prop:=
 oP (Instr.box 109 a0) w fun x2 w=>
 oP (Instr.box 109 a1) w fun x3 w=>
 rF 109 x2 0 w fun x6=>
 rL 3 x6 w fun x7=>
 rF 109 x3 0 w fun x8=>
 rL 3 x8 w fun x9=>
 rB .neq 3 T0 T0 x7 x9 w fun x10=>
 BR x10
 (R (Value.bool false) w)
 (rF 109 x2 1 w fun x12=>
 rL 3 x12 w fun x13=>
 rF 109 x3 1 w fun x14=>
 rL 3 x14 w fun x15=>
 rB .neq 3 T0 T0 x13 x15 w fun x16=>
 BR x16
 (R (Value.bool false) w)
 (rF 109 x2 2 w fun x19=>
 rL 9 x19 w fun x20=>
 rF 109 x3 2 w fun x21=>
 rL 9 x21 w fun x22=>
 rB .neq 9 T0 T0 x20 x22 w fun x23=>
 BR x23
 (R (Value.bool false) w)
 (rF 109 x2 3 w fun x26=>
 rL 107 x26 w fun x27=>
 rN 107 3 x27 w fun x28=>
 rF 109 x3 3 w fun x29=>
 rL 107 x29 w fun x30=>
 rN 107 3 x30 w fun x31=>
 rB .neq 3 T0 T0 x28 x31 w fun x32=>
 BR x32
 (R (Value.bool false) w)
 (LOOPI [5] [(iV 0)] w fun u4 w next4=>
 rF 109 x2 3 w fun x35=>
 rL 107 x35 w fun x36=>
 rN 107 3 x36 w fun x37=>
 rC (u4 5) x37 w fun x38=>
 BR x38
 ((fun w=>rF 109 x2 3 w fun x41=>
 rL 107 x41 w fun x42=>
 rX 107 x42 (u4 5) w fun x44=>
 rL 109 x44 w fun x45=>
 rF 109 x3 3 w fun x46=>
 rL 107 x46 w fun x47=>
 rX 107 x47 (u4 5) w fun x49=>
 rL 109 x49 w fun x50=>
 cL 128 [x45,x50] w fun x51 w=>
 rD (Op.unary .not x51) w fun x52=>
 BR x52
 (R (Value.bool false) w)
 (rA (u4 5) (iV 1) w fun x40=>
 next4 [x40] w)) (World.drew1 w))
 (R (Value.bool true) w)))))
def cfg128:Cfg:=⟨extL,[],[(4,9007182074871856,[5])],[(6,[0,1,2,3,4,5,6,7,8,9,10,11],0)],[],[],[]⟩
theorem F128_call {a0 a1:Value} {w:World} {R:VW} (h:F128 a0 a1 w R):cL 128 [a0,a1] w R:=co (g:=cfg128) Tryz.func128 (by kernel_rfl) (by kernel_rfl) (by kernel_rfl) h
theorem zjG {w:World} {v0:Value} {W0:World} {t:DTerm} {v1:Value} {W1:World} {t2:DTerm}  (h0:Is W0 v0 t) (e0:Ext W0 w) (h1:Is W1 v1 t2) (e1:Ext W1 w) (ht:t2=term0) :
   CALL Tryz.prog 128 [v0,v1] w fun r w'=>Ext w w'∧(r=.bool (decide (t=term0))):=by
 refine F128_call ?_
 unfold F128
 subst ht
 refine zaB zbf rfl h0 e0 fun w1_ hx1_ hA2 hV2=>?_
 refine zaB zbf rfl h1 (e1.trans hx1_) fun w2_ hx2_ hA3 hV3=>?_
 refine zaa zcn ?_
 refine zac ty3 (zbx hA2) hx2_ fun hI7=>?_
 refine zaa zcn ?_
 refine zac ty3 (zbx hA3) (Ext.refl w2_) fun hI9=>?_
 refine zaz ?_
 refine br (fun c1=>?_) (fun c1=>?_)
 · refine ⟨(hx1_.trans hx2_),?_⟩
   have:t≠term0:=fun e=>c1 (by rw [e])
   simp [this]
 refine zaa zca ?_
 refine zac ty3 (zbn hA2) hx2_ fun hI13=>?_
 refine zaa zca ?_
 refine zac ty3 (zbn hA3) (Ext.refl w2_) fun hI15=>?_
 refine zaz ?_
 refine br (fun c2=>?_) (fun c2=>?_)
 · refine ⟨(hx1_.trans hx2_),?_⟩
   have:t≠term0:=fun e=>c2 (by rw [e])
   simp [this]
 refine zaa zbW ?_
 refine zaE ty9 (za5 hA2) hx2_ fun hS20=>?_
 refine zaa zbW ?_
 refine zaE ty9 (za5 hA3) (Ext.refl w2_) fun hS22=>?_
 refine zgY ?_
 refine br (fun c3=>?_) (fun c3=>?_)
 · refine ⟨(hx1_.trans hx2_),?_⟩
   have:t≠term0:=fun e=>c3 (by rw [e])
   simp [this]
 refine zaa za9 ?_
 refine zab zcr (zaF hA2) hx2_ fun v27 h27=>?_
 have hln28:=zal h27
 refine zaf zer h27 ?_
 refine zaa za9 ?_
 refine zab zcr (zaF hA3) (Ext.refl w2_) fun v30 h30=>?_
 have hln31:=zal h30
 refine zaf zer h30 ?_
 refine zaz ?_
 refine br (fun c4=>?_) (fun c4=>?_)
 · refine ⟨(hx1_.trans hx2_),?_⟩
   have:t≠term0:=fun e=>c4 (by rw [e])
   simp [this]
 refine zas (0) (fun k us w'=>us=[.int .i64 (k:Int)]∧Ext w2_ w'∧(True)) (0) (by omega) ⟨by simp,Ext.refl w2_,trivial⟩ ?_
 rintro k m4 uu4 w3_ hk4 ⟨hu,hx3_,hinv⟩
 simp only [List.map_cons,List.map_nil,List.cons.injEq,and_true] at hu
 try rw [hu]
 try clear hu
 refine zaa za9 ?_
 refine zab zcr (zaF hA2) (hx2_.trans hx3_) fun v36 h36=>?_
 have hln37:=zal h36
 refine zaf zer h36 ?_
 refine zah ?_
 refine br (fun c5=>?_) (fun c5=>?_)
 · have hx4_:=zan w3_
   exact absurd c5 (by have:(term0.kids.length:Int)=0:=rfl;omega)
 refine ⟨(hx1_.trans (hx2_.trans hx3_)),?_⟩
 have:t=term0:=DTerm.ext_iff.2 ⟨Decidable.not_not.1 c1,Decidable.not_not.1 c2,Decidable.not_not.1 c3,List.eq_nil_of_length_eq_zero (by have:(term0.kids.length:Int)=0:=rfl;omega)⟩
 simp [this]
def plc (s:ByteArray):List ByteArray→Int
 | []=>-1
 | x :: l=>if x=s then 0 else if plc s l<0 then -1 else plc s l+1
theorem zlt {s:ByteArray} {l:List ByteArray} (h:s∉l):plc s l=-1:=by
 induction l with
 | nil=>rfl
 | cons x l ih=>
   simp only [List.mem_cons,not_or] at h
   rw [plc,if_neg (fun e=>h.1 e.symm),ih h.2];rfl
theorem znb {s:ByteArray}:∀ {l:List ByteArray} {k:Nat} (hk:k<l.length),s∉l.take k→l[k]=s→plc s l=k
 | x :: l,0,_,_,h=>by simp only [List.getElem_cons_zero] at h;rw [plc,if_pos h];rfl
 | x :: l,k+1,hk,hn,h=>by
   simp only [List.take_succ_cons,List.mem_cons,not_or] at hn
   have ih:=znb (by simpa using hk) hn.2 (by simpa using h)
   rw [plc,if_neg (fun e=>hn.1 e.symm),ih,if_neg (by omega)]
   omega
theorem zqV {s:ByteArray} {l:List ByteArray}:-1≤plc s l∧plc s l<l.length:=by
 induction l with
 | nil=>simp [plc]
 | cons x l ih=>
   rw [plc]
   split
   · simp only [List.length_cons];omega
   split<;>simp only [List.length_cons]<;>omega
theorem zeE {s:ByteArray} {l:List ByteArray}:0≤plc s l↔s∈l:=by
 induction l with
 | nil=>simp [plc]
 | cons x l ih=>
   rw [plc]
   split
   · rename_i h;simp [h]
   rename_i h
   rw [List.mem_cons,←ih]
   have:¬s=x:=fun e=>h e.symm
   simp only [this,false_or]
   split<;>omega
theorem zcz {l:List ByteArray} {k:Nat} {y:ByteArray} (hk:k<l.length) (h:y∉l.take k) (c:¬l[k]=y):y∉l.take (k+1):=by
 rw [List.take_succ_eq_append_getElem hk]
 simp only [List.mem_append,List.mem_cons,List.not_mem_nil,or_false,not_or]
 exact ⟨h,fun e=>c e.symm⟩
def F123 (a0 a1:Value) (w:World) (R:VW):Prop:=
 LOOPI [5] [(iV 0)] w fun u2 w next2=>
 rN 22 3 a0 w fun x8=>
 rC (u2 5) x8 w fun x9=>
 BR x9
 (rX 22 a0 (u2 5) w fun x14=>
 rL 9 x14 w fun x15=>
 rB .eql 9 T0 T0 x15 a1 w fun x17=>
 BR x17
 (R (u2 5) w)
 (rA (u2 5) (iV 1) w fun x11=>
 next2 [x11] w))
 (R (iV (-1)) w)
def cfg123:Cfg:=⟨extL,[],[(2,524272,[5])],[],[],[],[]⟩
theorem F123_call {a0 a1:Value} {w:World} {R:VW} (h:F123 a0 a1 w R):cL 123 [a0,a1] w R:=co (g:=cfg123) Tryz.func123 (by kernel_rfl) (by kernel_rfl) (by kernel_rfl) h
theorem zcA {w:World} {v0:Value} {W0:World} {l:(List ByteArray)} {s:ByteArray}  (h0:Is W0 v0 l) (e0:Ext W0 w)  :
   CALL Tryz.prog 123 [v0,.string s] w fun r w'=>Ext w w'∧(r=.int .i64 (plc s l)):=by
 refine F123_call ?_
 unfold F123
 refine zas (l.length) (fun k us w'=>us=[.int .i64 (k:Int)]∧Ext w w'∧(s∉l.take k)) (0) (by omega) ⟨by simp,Ext.refl w,by simp⟩ ?_
 rintro k m2 uu2 w1_ hk2 ⟨hu,hx1_,hinv⟩
 simp only [List.map_cons,List.map_nil,List.cons.injEq,and_true] at hu
 try rw [hu]
 try clear hu
 have hln8:=zal h0
 refine zaf u22 h0 ?_
 refine zah ?_
 refine br (fun c1=>?_) (fun c1=>?_)
 · refine zad u22 ty9 h0 (by omega) fun b14 o14 h14=>?_
   refine zaE ty9 h14 (e0.trans hx1_) fun hS15=>?_
   refine zaV ?_
   refine br (fun c2=>?_) (fun c2=>?_)
   · refine ⟨hx1_,?_⟩
     rw [znb (by omega) hinv c2]
   refine zag (by omega) ?_
   refine ⟨m2-1,by omega,k+1,by omega,by simp,hx1_,?_⟩
   exact zcz (by omega) hinv c2
 refine ⟨hx1_,?_⟩
 rw [List.take_of_length_le (by omega)] at hinv
 rw [zlt hinv]
def F186 (a0 a1:Value) (w:World) (R:VW):Prop:=
 rN 22 3 a0 w fun x7=>
 LOOPI [8] [(iV 0)] w fun u2 w next2=>
 rC (u2 8) x7 w fun x9=>
 BR x9
 (rX 22 a0 (u2 8) w fun x14=>
 rL 9 x14 w fun x15=>
 rB .eql 9 T0 T0 a1 x15 w fun x16=>
 BR x16
 (R (u2 8) w)
 (rA (u2 8) (iV 1) w fun x18=>
 next2 [x18] w))
 (R (iV (-1)) w)
def cfg186:Cfg:=⟨extL,[],[(2,524080,[8])],[],[],[],[]⟩
theorem F186_call {a0 a1:Value} {w:World} {R:VW} (h:F186 a0 a1 w R):cL 186 [a0,a1] w R:=co (g:=cfg186) Tryz.func186 (by kernel_rfl) (by kernel_rfl) (by kernel_rfl) h
theorem zhg {w:World} {v0:Value} {W0:World} {l:(List ByteArray)} {s:ByteArray}  (h0:Is W0 v0 l) (e0:Ext W0 w)  :
   CALL Tryz.prog 186 [v0,.string s] w fun r w'=>Ext w w'∧(r=.int .i64 (plc s l)):=by
 refine F186_call ?_
 unfold F186
 have hln7:=zal h0
 refine zaf u22 h0 ?_
 refine zas (l.length) (fun k us w'=>us=[.int .i64 (k:Int)]∧Ext w w'∧(s∉l.take k)) (0) (by omega) ⟨by simp,Ext.refl w,by simp⟩ ?_
 rintro k m2 uu2 w1_ hk2 ⟨hu,hx1_,hinv⟩
 simp only [List.map_cons,List.map_nil,List.cons.injEq,and_true] at hu
 try rw [hu]
 try clear hu
 refine zah ?_
 refine br (fun c1=>?_) (fun c1=>?_)
 · refine zad u22 ty9 h0 (by omega) fun b14 o14 h14=>?_
   refine zaE ty9 h14 (e0.trans hx1_) fun hS15=>?_
   refine zaV ?_
   refine br (fun c2=>?_) (fun c2=>?_)
   · refine ⟨hx1_,?_⟩
     rw [znb (by omega) hinv c2.symm]
   refine zag (by omega) ?_
   refine ⟨m2-1,by omega,k+1,by omega,by simp,hx1_,?_⟩
   exact zcz (by omega) hinv (fun e=>c2 e.symm)
 refine ⟨hx1_,?_⟩
 rw [List.take_of_length_le (by omega)] at hinv
 rw [zlt hinv]
def F169 (a0 a1:Value) (w:World) (R:VW):Prop:=
 cL 186 [a0,a1] w fun x7 w=>
 rB .geq 3 T0 U0 x7 (iV 0) w fun x8=>
 R x8 w
def cfg169:Cfg:=⟨extL,[],[],[],[],[],[]⟩
theorem F169_call {a0 a1:Value} {w:World} {R:VW} (h:F169 a0 a1 w R):cL 169 [a0,a1] w R:=co (g:=cfg169) Tryz.func169 (by kernel_rfl) (by kernel_rfl) (by kernel_rfl) h
theorem zbO {w:World} {v0:Value} {W0:World} {l:(List ByteArray)} {s:ByteArray}  (h0:Is W0 v0 l) (e0:Ext W0 w)  :
   CALL Tryz.prog 169 [v0,.string s] w fun r w'=>Ext w w'∧(r=.bool (decide (s∈l))):=by
 refine F169_call ?_
 unfold F169
 refine (zhg h0 e0).mono ?_
 rintro _ w1_ ⟨hx1_,rfl⟩
 refine zci ?_
 refine ⟨hx1_,?_⟩
 simp [zeE]
def F155 (a0 a1:Value) (w:World) (R:VW):Prop:=
 LOOPI [5] [(iV 0)] w fun u2 w next2=>
 rN 22 3 a0 w fun x8=>
 rC (u2 5) x8 w fun x9=>
 BR x9
 (rX 22 a0 (u2 5) w fun x14=>
 rL 9 x14 w fun x15=>
 rB .eql 9 T0 T0 x15 a1 w fun x17=>
 BR x17
 (R (Value.bool true) w)
 (rA (u2 5) (iV 1) w fun x11=>
 next2 [x11] w))
 (R (Value.bool false) w)
def cfg155:Cfg:=⟨extL,[],[(2,262128,[5])],[],[],[],[]⟩
theorem F155_call {a0 a1:Value} {w:World} {R:VW} (h:F155 a0 a1 w R):cL 155 [a0,a1] w R:=co (g:=cfg155) Tryz.func155 (by kernel_rfl) (by kernel_rfl) (by kernel_rfl) h
theorem zjH {w:World} {v0:Value} {W0:World} {l:(List ByteArray)} {s:ByteArray}  (h0:Is W0 v0 l) (e0:Ext W0 w)  :
   CALL Tryz.prog 155 [v0,.string s] w fun r w'=>Ext w w'∧(r=.bool (decide (s∈l))):=by
 refine F155_call ?_
 unfold F155
 refine zas (l.length) (fun k us w'=>us=[.int .i64 (k:Int)]∧Ext w w'∧(s∉l.take k)) (0) (by omega) ⟨by simp,Ext.refl w,by simp⟩ ?_
 rintro k m2 uu2 w1_ hk2 ⟨hu,hx1_,hinv⟩
 simp only [List.map_cons,List.map_nil,List.cons.injEq,and_true] at hu
 try rw [hu]
 try clear hu
 have hln8:=zal h0
 refine zaf u22 h0 ?_
 refine zah ?_
 refine br (fun c1=>?_) (fun c1=>?_)
 · refine zad u22 ty9 h0 (by omega) fun b14 o14 h14=>?_
   refine zaE ty9 h14 (e0.trans hx1_) fun hS15=>?_
   refine zaV ?_
   refine br (fun c2=>?_) (fun c2=>?_)
   · refine ⟨hx1_,?_⟩
     have:s∈l:=c2▸List.getElem_mem _
     simp [this]
   refine zag (by omega) ?_
   refine ⟨m2-1,by omega,k+1,by omega,by simp,hx1_,?_⟩
   exact zcz (by omega) hinv c2
 refine ⟨hx1_,?_⟩
 rw [List.take_of_length_le (by omega)] at hinv
 simp [hinv]
def F181 (a0 a1:Value) (w:World) (R:VW):Prop:=
 rN 22 3 a0 w fun x8=>
 rB .gtr 3 T0 T0 x8 a1 w fun x10=>
 BR x10
 (R (Value.bool false) w)
 (rN 22 3 a0 w fun x12=>
 LOOPI [13] [(iV 0)] w fun u4 w next4=>
 rC (u4 13) x12 w fun x14=>
 BR x14
 (rX 22 a0 (u4 13) w fun x15=>
 rL 9 x15 w fun x16=>
 cL 222 [x16] w fun x18 w=>
 rD (Op.unary .not x18) w fun x19=>
 BR x19
 (R (Value.bool false) w)
 (rA (u4 13) (iV 1) w fun x20=>
 next4 [x20] w))
 (R (Value.bool true) w))
def cfg181:Cfg:=⟨extL,[],[(4,2089040,[13])],[],[],[],[]⟩
theorem F181_call {a0 a1:Value} {w:World} {R:VW} (h:F181 a0 a1 w R):cL 181 [a0,a1] w R:=co (g:=cfg181) Tryz.func181 (by kernel_rfl) (by kernel_rfl) (by kernel_rfl) h
theorem zfj {w:World} {v0:Value} {W0:World} {l:(List ByteArray)} {m:Int}  (h0:Is W0 v0 l) (e0:Ext W0 w)  :
   CALL Tryz.prog 181 [v0,.int .i64 m] w fun r w'=>Ext w w'∧(r=.bool (decide ((l.length:Int)≤m)&&l.all zbr)):=by
 refine F181_call ?_
 unfold F181
 have hln8:=zal h0
 refine zaf u22 h0 ?_
 refine zdI ?_
 refine br (fun c1=>?_) (fun c1=>?_)
 · refine ⟨Ext.refl w,?_⟩
   simp [show ¬(l.length:Int)≤m by omega]
 have hln12:=zal h0
 refine zaf u22 h0 ?_
 refine zas (l.length) (fun k us w'=>us=[.int .i64 (k:Int)]∧Ext w w'∧((l.take k).all zbr=true)) (0) (by omega) ⟨by simp,Ext.refl w,by simp⟩ ?_
 rintro k m4 uu4 w1_ hk4 ⟨hu,hx1_,hinv⟩
 simp only [List.map_cons,List.map_nil,List.cons.injEq,and_true] at hu
 try rw [hu]
 try clear hu
 refine zah ?_
 refine br (fun c2=>?_) (fun c2=>?_)
 · refine zad u22 ty9 h0 (by omega) fun b15 o15 h15=>?_
   refine zaE ty9 h15 (e0.trans hx1_) fun hS16=>?_
   refine (zfI ).mono ?_
   rintro _ w2_ ⟨hx2_,rfl⟩
   refine za0 ?_
   refine zbI (fun c3=>?_) (fun c3=>?_)
   · refine ⟨(hx1_.trans hx2_),?_⟩
     simp only [zfK (p:=zbr) (l:=l) (k:=k) (by omega) (by simpa using c3),Bool.and_false]
   have hln:=zal h0
   refine zag (by omega) ?_
   refine ⟨m4-1,by omega,k+1,by omega,by simp,(hx1_.trans hx2_),?_⟩
   exact zgG (by omega) hinv (by simpa using c3)
 refine ⟨hx1_,?_⟩
 simp [zgH (p:=zbr) (l:=l) (by omega) hinv,show (l.length:Int)≤m by omega]
def F121 (a0 a1:Value) (w:World) (R:VW):Prop:=
 rN 22 3 a0 w fun x7=>
 rB .gtr 3 T0 T0 x7 a1 w fun x9=>
 BR x9
 (R (Value.bool false) w)
 (LOOPI [5] [(iV 0)] w fun u4 w next4=>
 rN 22 3 a0 w fun x12=>
 rC (u4 5) x12 w fun x13=>
 BR x13
 (rX 22 a0 (u4 5) w fun x18=>
 rL 9 x18 w fun x19=>
 cL 173 [x19] w fun x20 w=>
 rD (Op.unary .not x20) w fun x21=>
 BR x21
 (R (Value.bool false) w)
 (rA (u4 5) (iV 1) w fun x15=>
 next4 [x15] w))
 (R (Value.bool true) w))
def cfg121:Cfg:=⟨extL,[],[(4,4193328,[5])],[],[],[],[]⟩
theorem F121_call {a0 a1:Value} {w:World} {R:VW} (h:F121 a0 a1 w R):cL 121 [a0,a1] w R:=co (g:=cfg121) Tryz.func121 (by kernel_rfl) (by kernel_rfl) (by kernel_rfl) h
theorem zfk {w:World} {v0:Value} {W0:World} {l:(List ByteArray)} {m:Int}  (h0:Is W0 v0 l) (e0:Ext W0 w)  :
   CALL Tryz.prog 121 [v0,.int .i64 m] w fun r w'=>Ext w w'∧(r=.bool (decide ((l.length:Int)≤m)&&l.all zbr)):=by
 refine F121_call ?_
 unfold F121
 have hln7:=zal h0
 refine zaf u22 h0 ?_
 refine zdI ?_
 refine br (fun c1=>?_) (fun c1=>?_)
 · refine ⟨Ext.refl w,?_⟩
   simp [show ¬(l.length:Int)≤m by omega]
 refine zas (l.length) (fun k us w'=>us=[.int .i64 (k:Int)]∧Ext w w'∧((l.take k).all zbr=true)) (0) (by omega) ⟨by simp,Ext.refl w,by simp⟩ ?_
 rintro k m4 uu4 w1_ hk4 ⟨hu,hx1_,hinv⟩
 simp only [List.map_cons,List.map_nil,List.cons.injEq,and_true] at hu
 try rw [hu]
 try clear hu
 have hln12:=zal h0
 refine zaf u22 h0 ?_
 refine zah ?_
 refine br (fun c2=>?_) (fun c2=>?_)
 · refine zad u22 ty9 h0 (by omega) fun b18 o18 h18=>?_
   refine zaE ty9 h18 (e0.trans hx1_) fun hS19=>?_
   refine (zfH ).mono ?_
   rintro _ w2_ ⟨hx2_,rfl⟩
   refine za0 ?_
   refine zbI (fun c3=>?_) (fun c3=>?_)
   · refine ⟨(hx1_.trans hx2_),?_⟩
     simp only [zfK (p:=zbr) (l:=l) (k:=k) (by omega) (by simpa using c3),Bool.and_false]
   refine zag (by omega) ?_
   refine ⟨m4-1,by omega,k+1,by omega,by simp,(hx1_.trans hx2_),?_⟩
   exact zgG (by omega) hinv (by simpa using c3)
 refine ⟨hx1_,?_⟩
 simp [zgH (p:=zbr) (l:=l) (by omega) hinv,show (l.length:Int)≤m by omega]
instance decNodup:∀ (l:List ByteArray),Decidable l.Nodup
 | []=>isTrue List.nodup_nil
 | x :: l=>match decMemBA x l,decNodup l with
   | isFalse h,isTrue h'=>isTrue (List.nodup_cons.2 ⟨h,h'⟩)
   | isTrue h,_=>isFalse fun e=>(List.nodup_cons.1 e).1 h
   | _,isFalse h=>isFalse fun e=>h (List.nodup_cons.1 e).2
theorem zqW {l:List ByteArray} {k:Nat} (hk:k<l.length) (h:l[k]∈l.drop (k+1)):¬l.Nodup:=fun hn=>by
 have e:l=l.take k++(l[k] :: l.drop (k+1)):=by simp
 rw [e,List.nodup_append] at hn
 exact (List.nodup_cons.1 hn.2.1).1 h
theorem zp0 {l:List ByteArray} {k:Nat} (hk:k<l.length) (h:l[k]∈l.take k):¬l.Nodup:=fun hn=>by
 have e:l=l.take k++(l[k] :: l.drop (k+1)):=by simp
 rw [e,List.nodup_append] at hn
 exact hn.2.2 _ h _ List.mem_cons_self rfl
theorem zhh {l:List ByteArray} {k:Nat} (hk:k<l.length) (h:(l.take k).Nodup) (c:l[k]∉l.take k):(l.take (k+1)).Nodup:=by
 rw [List.take_succ_eq_append_getElem hk,List.nodup_append]
 refine ⟨h,by simp,fun a ha b hb e=>?_⟩
 simp only [List.mem_cons,List.not_mem_nil,or_false] at hb
 subst e;subst hb
 exact c ha
theorem ze8:∀ {l:List ByteArray},(∀ (k:Nat) (hk:k<l.length),l[k]∉l.drop (k+1))→l.Nodup
 | [],_=>List.nodup_nil
 | x :: l,h=>List.nodup_cons.2 ⟨h 0 (by simp),ze8 fun k hk=>h (k+1) (by simpa using hk)⟩
def F182 (a0:Value) (w:World) (R:VW):Prop:=
 rN 22 3 a0 w fun x6=>
 LOOPI [7] [(iV 0)] w fun u2 w next2=>
 rC (u2 7) x6 w fun x8=>
 BR x8
 (rX 22 a0 (u2 7) w fun x10=>
 rL 9 x10 w fun x11=>
 rA (u2 7) (iV 1) w fun x14=>
 rD (Instr.sliceAt 22 a0 (some x14) none none) w fun x15=>
 cL 169 [x15,x11] w fun x17 w=>
 BR x17
 (R (Value.bool true) w)
 (rA (u2 7) (iV 1) w fun x18=>
 next2 [x18] w))
 (R (Value.bool false) w)
def cfg182:Cfg:=⟨extL,[],[(2,524188,[7])],[],[],[],[]⟩
theorem F182_call {a0:Value} {w:World} {R:VW} (h:F182 a0 w R):cL 182 [a0] w R:=co (g:=cfg182) Tryz.func182 (by kernel_rfl) (by kernel_rfl) (by kernel_rfl) h
theorem zfl {w:World} {v0:Value} {W0:World} {l:(List ByteArray)}  (h0:Is W0 v0 l) (e0:Ext W0 w)  :
   CALL Tryz.prog 182 [v0] w fun r w'=>Ext w w'∧(r=.bool (decide (¬l.Nodup))):=by
 refine F182_call ?_
 unfold F182
 have hln6:=zal h0
 refine zaf u22 h0 ?_
 refine zas (l.length) (fun k us w'=>us=[.int .i64 (k:Int)]∧Ext w w'∧(∀ (j:Nat) (hj:j<l.length),j<k→l[j]∉l.drop (j+1))) (0) (by omega) ⟨by simp,Ext.refl w,fun j hj h=>by omega⟩ ?_
 rintro k m2 uu2 w1_ hk2 ⟨hu,hx1_,hinv⟩
 simp only [List.map_cons,List.map_nil,List.cons.injEq,and_true] at hu
 try rw [hu]
 try clear hu
 have hln:=zal h0
 refine zah ?_
 refine br (fun c1=>?_) (fun c1=>?_)
 · refine zad u22 ty9 h0 (by omega) fun b10 o10 h10=>?_
   refine zaE ty9 h10 (e0.trans hx1_) fun hS11=>?_
   refine zag (by omega) ?_
   refine zd5 u22 ty9 h0 (by omega) (by omega) fun v15 h15=>?_
   refine (zbO h15 (e0.trans hx1_)).mono ?_
   rintro _ w2_ ⟨hx2_,rfl⟩
   refine br (fun c2=>?_) (fun c2=>?_)
   · refine ⟨(hx1_.trans hx2_),?_⟩
     simp [zqW (by omega) c2]
   refine zag (by omega) ?_
   refine ⟨m2-1,by omega,k+1,by omega,by simp,(hx1_.trans hx2_),?_⟩
   intro j hj hjk
   by_cases h:j=k
   · subst h;exact c2
   exact hinv j hj (by omega)
 refine ⟨hx1_,?_⟩
 simp [ze8 fun j hj=>hinv j hj (by omega)]
def F122 (a0:Value) (w:World) (R:VW):Prop:=
 LOOPI [3] [(iV 0)] w fun u2 w next2=>
 rN 22 3 a0 w fun x6=>
 rC (u2 3) x6 w fun x7=>
 BR x7
 ((fun w=>rD (Instr.sliceAt 22 a0 none (some (u2 3)) none) w fun x12=>
 rX 22 a0 (u2 3) w fun x15=>
 rL 9 x15 w fun x16=>
 cL 155 [x12,x16] w fun x17 w=>
 BR x17
 (R (Value.bool true) w)
 (rA (u2 3) (iV 1) w fun x9=>
 next2 [x9] w)) (World.drew1 w))
 (R (Value.bool false) w)
def cfg122:Cfg:=⟨extL,[],[(2,262140,[3])],[(4,[0,1,2,3,4,5,6,7],0)],[],[],[]⟩
theorem F122_call {a0:Value} {w:World} {R:VW} (h:F122 a0 w R):cL 122 [a0] w R:=co (g:=cfg122) Tryz.func122 (by kernel_rfl) (by kernel_rfl) (by kernel_rfl) h
theorem zfm {w:World} {v0:Value} {W0:World} {l:(List ByteArray)}  (h0:Is W0 v0 l) (e0:Ext W0 w)  :
   CALL Tryz.prog 122 [v0] w fun r w'=>Ext w w'∧(r=.bool (decide (¬l.Nodup))):=by
 refine F122_call ?_
 unfold F122
 refine zas (l.length) (fun k us w'=>us=[.int .i64 (k:Int)]∧Ext w w'∧((l.take k).Nodup)) (0) (by omega) ⟨by simp,Ext.refl w,by simp⟩ ?_
 rintro k m2 uu2 w1_ hk2 ⟨hu,hx1_,hinv⟩
 simp only [List.map_cons,List.map_nil,List.cons.injEq,and_true] at hu
 try rw [hu]
 try clear hu
 have hln:=zal h0
 have hln6:=zal h0
 refine zaf u22 h0 ?_
 refine zah ?_
 refine br (fun c1=>?_) (fun c1=>?_)
 · have hx2_:=zan w1_
   refine zhd u22 ty9 h0 (by omega) (by omega) fun v12 h12=>?_
   refine zad u22 ty9 h0 (by omega) fun b15 o15 h15=>?_
   refine zaE ty9 h15 (e0.trans (hx1_.trans hx2_)) fun hS16=>?_
   refine (zjH h12 (e0.trans (hx1_.trans hx2_))).mono ?_
   rintro _ w3_ ⟨hx3_,rfl⟩
   refine br (fun c2=>?_) (fun c2=>?_)
   · refine ⟨(hx1_.trans (hx2_.trans hx3_)),?_⟩
     simp [zp0 (by omega) c2]
   refine zag (by omega) ?_
   refine ⟨m2-1,by omega,k+1,by omega,by simp,(hx1_.trans (hx2_.trans hx3_)),?_⟩
   exact zhh (by omega) hinv c2
 refine ⟨hx1_,?_⟩
 rw [List.take_of_length_le (by omega)] at hinv
 simp [hinv]
def F250 (a0 a1:Value) (w:World) (R:VW):Prop:=
 cL 169 [a0,a1] w fun x7 w=>
 BR x7
 (R a0 w)
 (oP (Instr.buildSlice 22 1 #[(0,a1)]) w fun x11 w=>
 oP (Builtin.append_ #[22,22] 22 [a0,x11].toArray) w fun x12 w=>
 R x12 w)
def cfg250:Cfg:=⟨extL,[],[],[],[],[],[]⟩
theorem F250_call {a0 a1:Value} {w:World} {R:VW} (h:F250 a0 a1 w R):cL 250 [a0,a1] w R:=co (g:=cfg250) Tryz.func250 (by kernel_rfl) (by kernel_rfl) (by kernel_rfl) h
def F220 (a0 a1:Value) (w:World) (R:VW):Prop:=
 oP (Instr.box 109 a1) w fun x3 w=>
 rF 109 x3 0 w fun x7=>
 rL 3 x7 w fun x8=>
 rB .eql 3 T0 U0 x8 (iV 2) w fun x9=>
 BR x9
 (rF 109 x3 2 w fun x11=>
 rL 9 x11 w fun x12=>
 cL 250 [a0,x12] w fun x13 w=>
 R x13 w)
 (rF 109 x3 3 w fun x14=>
 rL 107 x14 w fun x15=>
 rN 107 3 x15 w fun x16=>
 LOOPI [0,17] [a0,(iV 0)] w fun u4 w next4=>
 rC (u4 17) x16 w fun x18=>
 BR x18
 (rX 107 x15 (u4 17) w fun x19=>
 rL 109 x19 w fun x20=>
 oP (Instr.alloc 109 true (.tuple #[])) w fun x6 w=>
 oS 109 x6 x20 w fun w=>
 rL 109 x6 w fun x22=>
 cL 220 [(u4 0),x22] w fun x23 w=>
 rA (u4 17) (iV 1) w fun x24=>
 next4 [x23,x24] w)
 (R (u4 0) w))
def cfg220:Cfg:=⟨extL,[],[(4,33423425,[0,17])],[],[],[],[]⟩
theorem F220_call {a0 a1:Value} {w:World} {R:VW} (h:F220 a0 a1 w R):cL 220 [a0,a1] w R:=co (g:=cfg220) Tryz.func220 (by kernel_rfl) (by kernel_rfl) (by kernel_rfl) h
def F175 (a0 a1:Value) (w:World) (R:VW):Prop:=
 oP (Instr.box 109 a0) w fun x2 w=>
 rF 109 x2 0 w fun x7=>
 rL 3 x7 w fun x8=>
 rB .eql 3 T0 U0 x8 (iV 2) w fun x9=>
 BR x9
 (LOOPI [5] [(iV 0)] w fun u3 w next3=>
 rN 22 3 a1 w fun x12=>
 rC (u3 5) x12 w fun x13=>
 BR x13
 ((fun w=>rX 22 a1 (u3 5) w fun x18=>
 rL 9 x18 w fun x19=>
 rF 109 x2 2 w fun x20=>
 rL 9 x20 w fun x21=>
 rB .eql 9 T0 T0 x19 x21 w fun x22=>
 BR x22
 (R a1 w)
 (rA (u3 5) (iV 1) w fun x15=>
 next3 [x15] w)) (World.drew1 w))
 (rF 109 x2 2 w fun x25=>
 rL 9 x25 w fun x26=>
 oP (Instr.buildSlice 22 1 #[(0,x26)]) w fun x27 w=>
 oP (Builtin.append_ #[22,22] 22 [a1,x27].toArray) w fun x28 w=>
 R x28 w))
 (LOOPI [1,6] [a1,(iV 0)] w fun u9 w next9=>
 rF 109 x2 3 w fun x30=>
 rL 107 x30 w fun x31=>
 rN 107 3 x31 w fun x32=>
 rC (u9 6) x32 w fun x33=>
 BR x33
 (rF 109 x2 3 w fun x36=>
 rL 107 x36 w fun x37=>
 rX 107 x37 (u9 6) w fun x39=>
 rL 109 x39 w fun x40=>
 cL 175 [x40,(u9 1)] w fun x42 w=>
 rA (u9 6) (iV 1) w fun x35=>
 next9 [x42,x35] w)
 (R (u9 1) w))
def cfg175:Cfg:=⟨extL,[],[(3,16776240,[5]),(9,8795556151362,[1,6])],[(5,[0,1,2,3,4,5,6],0)],[],[],[]⟩
theorem F175_call {a0 a1:Value} {w:World} {R:VW} (h:F175 a0 a1 w R):cL 175 [a0,a1] w R:=co (g:=cfg175) Tryz.func175 (by kernel_rfl) (by kernel_rfl) (by kernel_rfl) h
def F168 (a0:Value) (w:World) (R:VW):Prop:=
 oP (Instr.box 109 a0) w fun x1 w=>
 rL 109 x1 w fun x3=>
 cL 184 [x3] w fun x4 w=>
 rD (Op.unary .not x4) w fun x5=>
 BR x5
 (R (Value.slice none 0 0) w)
 (rL 109 x1 w fun x6=>
 cL 220 [(Value.slice none 0 0),x6] w fun x7 w=>
 R x7 w)
def cfg168:Cfg:=⟨extL,[],[],[],[],[],[]⟩
theorem F168_call {a0:Value} {w:World} {R:VW} (h:F168 a0 w R):cL 168 [a0] w R:=co (g:=cfg168) Tryz.func168 (by kernel_rfl) (by kernel_rfl) (by kernel_rfl) h
def F127 (a0:Value) (w:World) (R:VW):Prop:=
 oP (Instr.box 109 a0) w fun x1 w=>
 rL 109 x1 w fun x3=>
 cL 126 [x3] w fun x4 w=>
 rD (Op.unary .not x4) w fun x5=>
 BR x5
 (oP (Instr.buildSlice 22 0 #[]) w fun x6 w=>
 R x6 w)
 (rL 109 x1 w fun x7=>
 oP (Instr.buildSlice 22 0 #[]) w fun x8 w=>
 cL 175 [x7,x8] w fun x9 w=>
 R x9 w)
def cfg127:Cfg:=⟨extL,[],[],[],[],[],[]⟩
theorem F127_call {a0:Value} {w:World} {R:VW} (h:F127 a0 w R):cL 127 [a0] w R:=co (g:=cfg127) Tryz.func127 (by kernel_rfl) (by kernel_rfl) (by kernel_rfl) h
def zoo (l:List ByteArray) (s:ByteArray):List ByteArray:=if s∈l then l else l++[s]
theorem zoH (l:List ByteArray) (s:ByteArray):(zoo l s).length≤l.length+1:=by unfold zoo;split<;>simp
def readsT:Nat→DTerm→List ByteArray→List ByteArray
 | n,t,l=>if t.kind=2 then zoo l t.name else match n with | 0=>l | m+1=>t.kids.foldl (fun l k=>readsT m k l) l
theorem zeW (n:Nat) (t:DTerm) (l:List ByteArray):readsT n t l=if t.kind=2 then zoo l t.name else match n with | 0=>l | m+1=>t.kids.foldl (fun l k=>readsT m k l) l:=readsT.eq_def n t l
theorem zhZ {α β:Type} (f:β→α→β) (b:β) {l:List α} {k:Nat} (hk:k<l.length):(l.take (k+1)).foldl f b=f ((l.take k).foldl f b) l[k]:=by
 rw [List.take_succ_eq_append_getElem hk,List.foldl_append];rfl
theorem zhi {n:Nat} {t:DTerm} (h:zbv n t=true) (h2:¬t.kind=2):t.kids=[]∨∃ m,n=m+1∧t.kids.length≤2∧∀ k∈t.kids,zbv m k=true:=by
 by_cases h1:t.kind=1
 · rw [zdq h1] at h
   simp only [Bool.and_eq_true,decide_eq_true_eq] at h
   exact .inl (List.eq_nil_of_length_eq_zero (by omega))
 rw [zbc h1 h2] at h
 simp only [Bool.and_eq_true,decide_eq_true_eq] at h
 obtain ⟨⟨_,h3⟩,h4⟩:=h
 cases n with
 | zero=>simp at h4
 | succ m=>
   refine .inr ⟨m,rfl,?_,fun k hk=>List.all_eq_true.1 h4 k hk⟩
   split at h3<;>omega
theorem zh0:∀ (n:Nat) (t:DTerm) (l:List ByteArray),zbv n t=true→(readsT n t l).length≤l.length+2^n
 | n,t,l,h=>by
   rw [zeW]
   have hp:1≤2^n:=Nat.one_le_two_pow
   split
   · have:=zoH l t.name;omega
   rename_i h2
   rcases zhi h h2 with hk | ⟨m,rfl,hk,hall⟩
   · cases n with
     | zero=>simp
     | succ m=>simp [hk]
   show (t.kids.foldl (fun l k=>readsT m k l) l).length≤_
   have key:∀ (ks:List DTerm) (l:List ByteArray),(∀ k∈ks,zbv m k=true)→(ks.foldl (fun l k=>readsT m k l) l).length≤l.length+ks.length*2^m:=by
     intro ks
     induction ks with
     | nil=>intro l _;simp
     | cons k ks ih=>
       intro l hks
       rw [List.foldl_cons,List.length_cons,Nat.add_mul,Nat.one_mul]
       have h1:=ih (readsT m k l) fun x hx=>hks x (by simp [hx])
       have h2:=zh0 m k l (hks k (by simp))
       omega
   have h1:=key t.kids l hall
   have h2:t.kids.length*2^m≤2*2^m:=Nat.mul_le_mul_right _ hk
   rw [Nat.pow_succ];omega
theorem zlu {w:World} {v:Value} {l:List ByteArray} {F:List Nat} {s:ByteArray} {ty:TypeId} {K:Value→World→Prop} (hr:RowF F 9 w v l) (hn:F.Nodup) (hs:s.size≤maxLen) (hl:l.length≤1000000)
   (k:∀ v' w',Chg F w w'→(∃ F',RowF F' 9 w' v' (l++[s])∧F'.Nodup∧∀ b∈F',b∈F∨w.heap.size≤b)→K v' w') :
   OP Tryz.prog (Instr.buildSlice 22 1 #[(0,.string s)]) w fun x w1=>OP Tryz.prog (Builtin.append_ #[22,22] ty [v,x].toArray) w1 K:=by
 refine zfJ (α:=ByteArray) (x:=s) (F:=[]) u22 ty9 z9 (by decide) ⟨⟨_,⟨rfl,rfl,hs⟩,rfl⟩,List.nodup_nil,Wr.nil _⟩ fun w1 hx1 hm1=>?_
 obtain ⟨a,cap,Fi,xs,he,h1,h2,hc,h4⟩:=zdc hm1.is
 have hFi:=Cells.flat (xs:=xs) hc
 subst hFi
 refine zfD (α:=ByteArray) (m:=[s]) u22 ty9 zc9 (hr.ext hx1) hn he hc (.inr ?_) (Wr.nil _) (by simpa using hn) (by simp only [List.length_cons,List.length_nil,zao];omega) (by simp only [List.length_cons,List.length_nil];omega) fun v' w' F' hch hfull hr' hn' hs'=>?_
 · rcases h4 with h4 | ⟨b,o,ha,hra,_⟩
   · simp at h4
   exact ⟨b,o,ha,hra⟩
 have hown:∀ c∈v.ownBlock.toList,c∈F:=fun c hc=>by
   obtain ⟨xs,Fi,_,_,rfl,_⟩:=hr
   simp only [List.mem_append];exact .inl hc
 refine k v' w' ((Ext.chg F hx1).trans (hch.mono hown)) ⟨F',hr',hn',fun b hb=>?_⟩
 rcases hs' b hb with h | h | h
 · exact .inl h
 · simp at h
 exact .inr (Nat.le_trans hx1.size h)
theorem zmf {w:World} {v:Value} {l:List ByteArray} {F:List Nat} {s:ByteArray} (hr:RowF F 9 w v l) (hn:F.Nodup) (hs:s.size≤maxLen) (hl:l.length≤1000000) :
   CALL Tryz.prog 250 [v,.string s] w fun r w'=>Chg F w w'∧∃ F',RowF F' 9 w' r (zoo l s)∧F'.Nodup∧∀ b∈F',b∈F∨w.heap.size≤b:=by
 refine F250_call ?_
 unfold F250
 refine (zbO hr.own.is (Ext.refl w)).mono ?_
 rintro _ w1 ⟨hx1,rfl⟩
 refine br (fun c1=>?_) (fun c1=>?_)
 · exact ⟨Ext.chg F hx1,F,by unfold zoo;rw [if_pos c1];exact hr.ext hx1,hn,fun b hb=>.inl hb⟩
 refine zlu (hr.ext hx1) hn hs hl fun v' w' hc ⟨F',h1,h2,h3⟩=>⟨(Ext.chg F hx1).trans hc,F',by unfold zoo;rw [if_neg c1];exact h1,h2,fun b hb=>?_⟩
 rcases h3 b hb with h | h
 · exact .inl h
 exact .inr (Nat.le_trans hx1.size h)
def ziA (F:List Nat) (w:World) (l:List ByteArray) (r:Value) (w':World):Prop:=Chg F w w'∧∃ F',RowF F' 9 w' r l∧F'.Nodup∧∀ b∈F',b∈F∨w.heap.size≤b
def zrr (n:Nat):Prop:=∀ {w W:World} {v u:Value} {t:DTerm} {l:List ByteArray} {F:List Nat},Is W v t→Ext W w→RowF F 9 w u l→F.Nodup→(∀ b∈F,W.heap.size≤b)→zbv n t=true→l.length+2^n≤1000 →
 CALL Tryz.prog 220 [u,v] w (ziA F w (readsT n t l))
def zrs (n:Nat):Prop:=∀ {w W:World} {v u:Value} {t:DTerm} {l:List ByteArray} {F:List Nat},Is W v t→Ext W w→RowF F 9 w u l→F.Nodup→(∀ b∈F,W.heap.size≤b)→zbv n t=true→l.length+2^n≤1000 →
 CALL Tryz.prog 175 [v,u] w (ziA F w (readsT n t l))
theorem ziB {n:Nat} {t:DTerm} {l:List ByteArray} (h:t.kind=2):readsT n t l=zoo l t.name:=by rw [zeW,if_pos h]
theorem zhj {n:Nat} {t:DTerm} {l:List ByteArray} (h:zbv n t=true) (h2:¬t.kind=2) (hl:l.length+2^n≤1000) :
   ∃ m,(t.kids=[]∨n=m+1)∧readsT n t l=t.kids.foldl (fun l k=>readsT m k l) l∧(∀ k∈t.kids,zbv m k=true)∧∀ k,k<t.kids.length→((t.kids.take k).foldl (fun l k=>readsT m k l) l).length+2^m≤1000:=by
 rcases zhi h h2 with hk | ⟨m,rfl,hk,hall⟩
 · refine ⟨0,.inl hk,?_,by simp [hk],by simp [hk]⟩
   rw [zeW,if_neg h2,hk]
   cases n<;>rfl
 refine ⟨m,.inr rfl,by rw [zeW,if_neg h2],hall,fun k hkl=>?_⟩
 rw [Nat.pow_succ] at hl
 have key:∀ (ks:List DTerm) (l:List ByteArray),(∀ k∈ks,zbv m k=true)→(ks.foldl (fun l k=>readsT m k l) l).length≤l.length+ks.length*2^m:=by
   intro ks
   induction ks with
   | nil=>intro l _;simp
   | cons k ks ih=>
     intro l hks
     rw [List.foldl_cons,List.length_cons,Nat.add_mul,Nat.one_mul]
     have h1:=ih (readsT m k l) fun x hx=>hks x (by simp [hx])
     have h2:=zh0 m k l (hks k (by simp))
     omega
 have h1:=key (t.kids.take k) l fun x hx=>hall x (List.mem_of_mem_take hx)
 have h3:(t.kids.take k).length≤1:=by simp;omega
 have h4:(t.kids.take k).length*2^m≤1*2^m:=Nat.mul_le_mul_right _ h3
 omega
theorem zlv {W w:World} {b o:Nat} {t:DTerm} (h:AtB W w b o t):AtB W w b (o+3) t.kids:=by
 have h':AtB W w b o t.tup:=by obtain ⟨F,cs,hr,ha⟩:=h;exact ⟨F,cs,zfh.1 hr,ha⟩
 exact h'.snd.snd.snd
theorem ziC {n:Nat} (ih:∀ m,m+1=n→zrr m):zrr n:=by
 intro w W v u t l F h e hr hn hF ht hl
 refine F220_call ?_
 unfold F220
 refine zaB zbf rfl h e fun w1 hx1 hA hV=>?_
 refine zaa zcn ?_
 refine zac ty3 (zbx hA) (Ext.refl w1) fun _=>?_
 refine zaq ?_
 refine br (fun c1=>?_) (fun c1=>?_)
 · refine zaa zbW ?_
   refine zaE ty9 (za5 hA) (Ext.refl w1) fun hS=>?_
   have hp:1≤2^n:=Nat.one_le_two_pow
   refine (zmf (hr.ext hx1) hn hS (by omega)).mono ?_
   rintro r w2 ⟨hc,F',h1,h2,h3⟩
   refine ⟨(Ext.chg F hx1).trans hc,F',by rw [ziB c1];exact h1,h2,fun b hb=>?_⟩
   rcases h3 b hb with h | h
   · exact .inl h
   exact .inr (Nat.le_trans hx1.size h)
 obtain ⟨m,hm,he,hks,hlen⟩:=zhj ht c1 hl
 refine zaa za9 ?_
 refine zjF zcr (zlv (zf8 h hV rfl)) (e.trans hx1) (Ext.refl w1) fun v15 h15=>?_
 refine zaf zer h15 ?_
 have hll:=zal h15
 refine zas t.kids.length (fun k us w'=>∃ q,us=[q,.int .i64 (k:Int)]∧ziA F w ((t.kids.take k).foldl (fun l k=>readsT m k l) l) q w') 0 (Nat.zero_le _) ⟨u,rfl,Ext.chg F hx1,F,by simpa using hr.ext hx1,hn,fun b hb=>.inl hb⟩ ?_
 rintro k mm uu w2 hkm ⟨q,hu,hc2,F2,hr2,hn2,hs2⟩
 obtain ⟨hu0,hu1⟩:=zb9 hu
 try rw [hu0]
 try rw [hu1]
 have hF2:∀ b∈F2,W.heap.size≤b:=fun b hb=>by
   rcases hs2 b hb with h | h
   · exact hF b h
   exact Nat.le_trans e.size h
 have hxW:Ext W w2:=e.chg_trans hc2 hF
 refine zah ?_
 refine br (fun c2=>?_) (fun c2=>?_)
 · have hk:k<t.kids.length:=by omega
   obtain ⟨m',rfl⟩:∃ m',n=m'+1:=by
     rcases hm with h | h
     · rw [h] at hk;simp at hk
     exact ⟨m,h⟩
   have hmm:m'=m:=by
     rcases hm with h | h
     · rw [h] at hk;simp at hk
     omega
   subst hmm
   refine zad zer zbf h15 hk fun b o hA2=>?_
   refine zab zbf hA2 hxW fun v20 h20=>?_
   refine zce zmU rfl zbf rfl h20 hxW fun w3 hx3 hA3 hV3=>?_
   refine zbD hV3 (Ext.refl w3) ?_
   refine (ih m' rfl h20 (hxW.trans hx3) (hr2.ext hx3) hn2 hF2 (hks _ (List.getElem_mem hk)) (hlen k hk)).mono ?_
   rintro r w4 ⟨hc4,F4,hr4,hn4,hs4⟩
   refine zag (by omega) ?_
   refine ⟨mm-1,by omega,k+1,by omega,r,rfl,?_⟩
   refine ⟨?_,F4,by rw [zhZ _ _ hk];exact hr4,hn4,fun b hb=>?_⟩
   · -- the blocks of F alone have turned
     refine ⟨hc4.os.trans (hx3.os.trans hc2.os),hc4.tape.trans (hx3.tape.trans hc2.tape),hc4.output.trans (hx3.output.trans hc2.output),Nat.le_trans hc2.size (Nat.le_trans hx3.size hc4.size),fun b hb hbF=>?_⟩
     have hb2:b<w2.heap.size:=Nat.lt_of_lt_of_le hb hc2.size
     have hbF2:b∉F2:=fun hm=>by
       rcases hs2 b hm with h | h
       · exact hbF h
       omega
     rw [hc4.block b (Nat.lt_of_lt_of_le hb2 hx3.size) hbF2,hx3.heap hb2,hc2.block b hb hbF]
   rcases hs4 b hb with h | h
   · exact hs2 b h
   have:=hx3.size;have:=hc2.size;exact .inr (by omega)
 rw [List.take_of_length_le (by omega),←he] at hr2
 exact ⟨hc2,F2,hr2,hn2,hs2⟩
theorem zhk:∀ n,zrr n
  | n=>ziC fun m hm=>zhk m
termination_by n=>n
decreasing_by omega
theorem ziD {n:Nat} (ih:∀ m,m+1=n→zrs m):zrs n:=by
 intro w W v u t l F h e hr hn hF ht hl
 refine F175_call ?_
 unfold F175
 have hlen:=zal hr.own.is
 have hp:1≤2^n:=Nat.one_le_two_pow
 refine zaB zbf rfl h e fun w1 hx1 hA hV=>?_
 have hg1:w.heap.size<w1.heap.size:=hV.lt
 have hgF:w.heap.size∉F:=fun hm=>by have:=hr.lt _ hm;omega
 refine zaa zcn ?_
 refine zac ty3 (zbx hA) (Ext.refl w1) fun _=>?_
 refine zaq ?_
 refine br (fun c1=>?_) (fun c1=>?_)
 · have hr1:=hr.ext hx1
   refine zas l.length (fun k us w'=>us=[.int .i64 (k:Int)]∧Ext w1 w'∧t.name∉l.take k) 0 (Nat.zero_le _) ⟨rfl,Ext.refl w1,by simp⟩ ?_
   rintro k mm uu w2 hkm ⟨hu,hx2,hinv⟩
   simp only [List.map_cons,List.map_nil,List.cons.injEq,and_true] at hu
   rw [hu]
   refine zaf u22 hr1.own.is ?_
   refine zah ?_
   refine br (fun c2=>?_) (fun c2=>?_)
   · have hk:k<l.length:=by omega
     have hx3:=hx2.trans (zan w2)
     refine zad u22 ty9 hr1.own.is hk fun b o hA2=>?_
     refine zaE ty9 hA2 hx3 fun _=>?_
     refine zaa zbW ?_
     refine zaE ty9 (za5 hA) hx3 fun _=>?_
     refine zaV ?_
     refine br (fun c3=>?_) (fun c3=>?_)
     · have hm:t.name∈l:=c3▸List.getElem_mem hk
       refine ⟨Ext.chg F (hx1.trans hx3),F,?_,hn,fun b hb=>.inl hb⟩
       rw [ziB c1,zoo,if_pos hm]
       exact hr1.ext hx3
     refine zag (by omega) ?_
     exact ⟨mm-1,by omega,k+1,by omega,rfl,hx3,zcz hk hinv c3⟩
   rw [List.take_of_length_le (by omega)] at hinv
   have hx3:=hx2.trans (zan w2)
   first
     | refine zaa zbW ?_
     | skip
   refine zaE ty9 (za5 hA) hx2 fun hS=>?_
   refine zlu (hr1.ext hx2) hn hS (by omega) fun v' w' hc ⟨F',h1,h2,h3⟩=>?_
   refine ⟨(Ext.chg F (hx1.trans hx2)).trans hc,F',by rw [ziB c1,zoo,if_neg hinv];exact h1,h2,fun b hb=>?_⟩
   rcases h3 b hb with h | h
   · exact .inl h
   exact .inr (Nat.le_trans (hx1.trans hx2).size h)
 obtain ⟨m,hm,he,hks,hlen⟩:=zhj ht c1 hl
 refine zas t.kids.length (fun k us w'=>∃ q,us=[q,.int .i64 (k:Int)]∧ziA F w1 ((t.kids.take k).foldl (fun l k=>readsT m k l) l) q w') 0 (Nat.zero_le _) ⟨u,rfl,Chg.refl F w1,F,by simpa using hr.ext hx1,hn,fun b hb=>.inl hb⟩ ?_
 rintro k mm uu w2 hkm ⟨q,hu,hc2,F2,hr2,hn2,hs2⟩
 obtain ⟨hu0,hu1⟩:=zb9 hu
 try rw [hu0]
 try rw [hu1]
 have hF2:∀ b∈F2,W.heap.size≤b:=fun b hb=>by
   rcases hs2 b hb with h | h
   · exact hF b h
   have:=e.size;have:=hx1.size;omega
 have hxW:Ext W w2:=(e.trans hx1).chg_trans hc2 hF
 have hB2:AtB W w2 w.heap.size 0 t:=(zf8 h hV rfl).keep (hc2.block _ hg1 hgF)
 have hA2:=hB2.at hxW
 refine zaa za9 ?_
 refine zab zcr (zaF hA2) (Ext.refl w2) fun v31 h31=>?_
 refine zaf zer h31 ?_
 have hll:=zal h31
 refine zah ?_
 refine br (fun c2=>?_) (fun c2=>?_)
 · have hk:k<t.kids.length:=by omega
   obtain ⟨m',rfl⟩:∃ m',n=m'+1:=by
     rcases hm with h | h
     · rw [h] at hk;simp at hk
     exact ⟨m,h⟩
   have hmm:m'=m:=by
     rcases hm with h | h
     · rw [h] at hk;simp at hk
     omega
   subst hmm
   refine zaa za9 ?_
   refine zjF zcr (zlv hB2) hxW (Ext.refl w2) fun v37 h37=>?_
   refine zad zer zbf h37 hk fun b o hA3=>?_
   refine zab zbf hA3 hxW fun v40 h40=>?_
   refine (ih m' rfl h40 hxW hr2 hn2 hF2 (hks _ (List.getElem_mem hk)) (hlen k hk)).mono ?_
   rintro r w4 ⟨hc4,F4,hr4,hn4,hs4⟩
   refine zag (by omega) ?_
   refine ⟨mm-1,by omega,k+1,by omega,r,rfl,?_⟩
   refine ⟨?_,F4,by rw [zhZ _ _ hk];exact hr4,hn4,fun b hb=>?_⟩
   · refine ⟨hc4.os.trans hc2.os,hc4.tape.trans hc2.tape,hc4.output.trans hc2.output,Nat.le_trans hc2.size hc4.size,fun b hb hbF=>?_⟩
     have hb2:b<w2.heap.size:=Nat.lt_of_lt_of_le hb hc2.size
     have hbF2:b∉F2:=fun hm=>by
       rcases hs2 b hm with h | h
       · exact hbF h
       omega
     rw [hc4.block b hb2 hbF2,hc2.block b hb hbF]
   rcases hs4 b hb with h | h
   · exact hs2 b h
   have:=hc2.size;exact .inr (by omega)
 rw [List.take_of_length_le (by omega),←he] at hr2
 refine ⟨(Ext.chg F hx1).trans hc2,F2,hr2,hn2,fun b hb=>?_⟩
 rcases hs2 b hb with h | h
 · exact .inl h
 exact .inr (Nat.le_trans hx1.size h)
theorem zhl:∀ n,zrs n
  | n=>ziD fun m hm=>zhl m
termination_by n=>n
decreasing_by omega
def zbH (t:DTerm):List ByteArray:=if zbv 6 t=true then readsT 6 t [] else []
theorem zoI {α:Type} [Rep α] (e:TypeId) (w:World):RowF (α:=α) [] e w (.slice none 0 0) []:=⟨[],[],⟨by simp,.inl ⟨rfl,rfl⟩⟩,⟨rfl,rfl⟩,rfl,Wr.nil _⟩
theorem zdC {w W:World} {v:Value} {t:DTerm} (h:Is W v t) (e:Ext W w):CALL Tryz.prog 168 [v] w fun r w'=>Ext w w'∧Is w' r (zbH t):=by
 refine F168_call ?_
 unfold F168
 refine zaB zbf rfl h e fun w1 hx1 hA hV=>?_
 refine zbD hV (Ext.refl w1) ?_
 refine (zd7 h (e.trans hx1)).mono ?_
 rintro _ w2 ⟨hx2,rfl⟩
 refine za0 ?_
 refine zbI (fun c=>?_) (fun c=>?_)
 · refine ⟨hx1.trans hx2,?_⟩
   unfold zbH
   rw [if_neg (by simpa using c)]
   exact zqL rfl
 have c:zbv 6 t=true:=by simpa using c
 refine zbD hV hx2 ?_
 refine (zhk 6 h ((e.trans hx1).trans hx2) (zoI _ _) List.nodup_nil (by simp) c (by decide)).mono ?_
 rintro r w3 ⟨hc,F',hr,hn,hs⟩
 refine ⟨(hx1.trans hx2).trans (Chg.ext hc),?_⟩
 unfold zbH
 rw [if_pos c]
 exact hr.own.is
theorem zdD {w W:World} {v:Value} {t:DTerm} (h:Is W v t) (e:Ext W w):CALL Tryz.prog 127 [v] w fun r w'=>Ext w w'∧Is w' r (zbH t):=by
 refine F127_call ?_
 unfold F127
 refine zaB zbf rfl h e fun w1 hx1 hA hV=>?_
 refine zbD hV (Ext.refl w1) ?_
 refine (zd8 h (e.trans hx1)).mono ?_
 rintro _ w2 ⟨hx2,rfl⟩
 refine za0 ?_
 refine zbI (fun c=>?_) (fun c=>?_)
 · refine zgZ (α:=ByteArray) u22 ty9 fun a w3 hx3 hr3=>?_
   refine ⟨(hx1.trans hx2).trans hx3,?_⟩
   unfold zbH
   rw [if_neg (by simpa using c)]
   exact hr3.is
 have c:zbv 6 t=true:=by simpa using c
 refine zbD hV hx2 ?_
 refine zgZ (α:=ByteArray) u22 ty9 fun a w3 hx3 hr3=>?_
 obtain ⟨F,hr,hn,hl⟩:=hr3
 have hx13:=(hx1.trans hx2)
 refine (zhl 6 h ((e.trans hx13).trans hx3) hr hn (fun b hb=>Nat.le_trans (e.trans hx13).size (hl b hb)) c (by decide)).mono ?_
 rintro r w4 ⟨hc,F',hr',hn',hs'⟩
 refine ⟨(hx13.trans hx3).chg_trans hc (fun b hb=>Nat.le_trans hx13.size (hl b hb)),?_⟩
 unfold zbH
 rw [if_pos c]
 exact hr'.own.is
end Go.Proofs.YtifonhplnmpgaaaGreat
