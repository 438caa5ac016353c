/-
  Parts of the proof, put together by program.
-/
import Derived.Test.YtifonhplnmpgaaaGreatPRanked1
set_option linter.unusedVariables false
set_option linter.unusedSimpArgs false
set_option linter.unusedSectionVars false
namespace Go.Sh
open Go.RowKit (Below)
open Rep (rep)
def OAt {α:Type} [Rep α] (G:List Nat) (w:World) (b o:Nat) (x:α):Prop:=
 ∃ cs,rep G w cs x∧w.rangeAt b o cs∧G.Nodup∧Wr G w∧b∉G∧∃ c e,w.heap[b]?=some (.cells c e (0,0))
structure ChgAt (b o n:Nat) (G:List Nat) (w w':World):Prop where
 chg:Chg (b :: G) w w'
 cell:∀ c e,w.heap[b]?=some (.cells c e (0,0))→∃ c',w'.heap[b]?=some (.cells c' e (0,0))∧∀ j,(j<o∨o+n≤j)→c'[j]?=c[j]?
theorem ChgAt.mono {b o n o' n':Nat} {G G':List Nat} {w w':World} (h:ChgAt b o n G w w') (ho:o'≤o) (hn:o+n≤o'+n') (hG:∀ c∈G,c∈G'):ChgAt b o' n' G' w w':=
 ⟨h.chg.mono fun x hx=>by
   rcases List.mem_cons.1 hx with rfl | hx
   · simp
   · exact List.mem_cons_of_mem _ (hG x hx),fun c e hc=>by
   obtain ⟨c',h1,h2⟩:=h.cell c e hc
   exact ⟨c',h1,fun j hj=>h2 j (by omega)⟩⟩
section
variable {P:Program} {w w0:World} {α β:Type} [Rep α] [Rep β]
theorem ChgAt.range {b o n o':Nat} {G:List Nat} {w':World} {cs:List Value} (h:ChgAt b o n G w w') (hw:∃ c e,w.heap[b]?=some (.cells c e (0,0))) (hr:w.rangeAt b o' cs) (hd:o'+cs.length≤o∨o+n≤o'):w'.rangeAt b o' cs:=by
 obtain ⟨c,e,hc⟩:=hw
 obtain ⟨c',h1,h2⟩:=h.cell c e hc
 intro j v hv
 have hj:j<cs.length:=(List.getElem?_eq_some_iff.1 hv).1
 have:=hr j v hv
 simp only [World.cell?,hc,h1] at this ⊢
 simp only [Option.isSome_none,Bool.false_eq_true,if_false] at this ⊢
 rw [h2 (o'+j) (by omega)];exact this
theorem OAt.at {G:List Nat} {b o:Nat} {x:α} (h:OAt G w b o x):At w b o x:=by
 obtain ⟨cs,hr,ha,_⟩:=h;exact ⟨G,cs,hr,ha⟩
theorem OAt.lt {G:List Nat} {b o:Nat} {x:α} (h:OAt G w b o x):b<w.heap.size:=by
 obtain ⟨cs,_,_,_,_,_,c,e,hc⟩:=h;exact (Array.getElem?_eq_some_iff.1 hc).1
structure Lens (H:List Nat→World→α→Prop) (S:List Nat) (w:World) (b o:Nat) (G:List Nat) (y:β) (upd:β→α):Prop where
 here:OAt G w b o y
 sub:∀ c∈b :: G,c∈S
 back:∀ w' G' y',ChgAt b o (Rep.size β) G w w'→OAt G' w' b o y'→(∀ c∈G',c∈G∨c∉S)→∃ F',H F' w' (upd y')∧∀ c∈F',c∈S∨c∈G'
abbrev MH (v:Value):List Nat→World→α→Prop:=fun F w x=>Mine F w v x
abbrev VH (g:Nat):List Nat→World→α→Prop:=fun F w x=>OAt F w g 0 x
theorem Lens.var {F:List Nat} {g:Nat} {x:α} (h:OAt F w g 0 x):Lens (VH g) (g :: F) w g 0 F x (fun y=>y):=
 ⟨h,fun _ h=>h,fun w' G' y' _ hO _=>⟨G',hO,fun c hc=>.inr hc⟩⟩
theorem zl3 {F1 F2 G G':List Nat} {b:Nat} (h:(b :: (F1++(G++F2))).Nodup) (hG:G'.Nodup) (hs:∀ c∈G',c∈G∨c∉b :: (F1++(G++F2))):(b :: (F1++(G'++F2))).Nodup:=by
 rw [List.nodup_cons] at h ⊢
 obtain ⟨hb,h⟩:=h
 rw [List.nodup_append] at h ⊢
 obtain ⟨h1,h2,h3⟩:=h
 rw [List.nodup_append] at h2 ⊢
 obtain ⟨h4,h5,h6⟩:=h2
 refine ⟨fun hm=>?_,h1,⟨hG,h5,fun a ha c hc e=>?_⟩,fun a ha c hc e=>?_⟩
 · rcases List.mem_append.1 hm with hm | hm
   · exact hb (by simp [hm])
   rcases List.mem_append.1 hm with hm | hm
   · rcases hs _ hm with h' | h'
     · exact hb (by simp [h'])
     exact h' (by simp)
   exact hb (by simp [hm])
 · subst e
   rcases hs _ ha with h' | h'
   · exact h6 a h' a hc rfl
   exact h' (by simp [hc])
 subst e
 rcases List.mem_append.1 hc with hc | hc
 · rcases hs _ hc with h' | h'
   · exact h3 a ha a (by simp [h']) rfl
   exact h' (by simp [ha])
 exact h3 a ha a (by simp [hc]) rfl
theorem zqa {F:List Nat} {v:Value} {l:List α} {k:Nat} (hm:Mine F w v l) (hk:k<l.length) :
   ∃ b a cap G,v=.slice (some ⟨b,a,none⟩) l.length cap∧Lens (MH v) F w b (a+k*Rep.size α) G l[k] (fun y=>l.set k y):=by
 obtain ⟨⟨cs,⟨a,cap,Fi,xs,rfl,h1,h2,hc,h4⟩,rfl⟩,hn,hw⟩:=hm
 rcases h4 with ⟨rfl,_⟩ | ⟨b,o,rfl,rfl,hra,hb⟩
 · simp at hk
 have e:l=l.take k++(l[k] :: l.drop (k+1)):=by simp
 have hc':=hc
 rw [e] at hc'
 obtain ⟨F1,F2',x1,x2',hFi,hxs,c1,c2'⟩:=Cells.split hc'
 obtain ⟨G,F2,cg,x2,rfl,rfl,hg,c2⟩:=c2'
 subst hFi hxs
 have hl1:x1.length=k*Rep.size α:=by rw [Cells.len c1,List.length_take];congr 1;omega
 have hlg:=Rep.len hg
 have hn':=hn
 rw [List.nodup_cons] at hn
 obtain ⟨hbn,hn⟩:=hn
 rw [List.nodup_append] at hn
 obtain ⟨hn1,hn2,hn3⟩:=hn
 rw [List.nodup_append] at hn2
 obtain ⟨hnG,hnF2,hn4⟩:=hn2
 obtain ⟨r1,r2⟩:=zaE hra
 obtain ⟨rg,r3⟩:=zaE r2
 rw [hl1] at rg r3
 have hwb:∃ c e,w.heap[b]?=some (.cells c e (0,0)):=hw b (by simp)
 refine ⟨b,o,cap,G,rfl,⟨cg,hg,rg,hnG,hw.sub (by simp +contextual),fun h=>hbn (by simp [h]),hwb⟩,by simp +contextual,fun w' G' y' hch hO hs=>?_⟩
 obtain ⟨cg',hg',rg',hnG',hwG',hbG',hwb'⟩:=hO
 have hlg':=Rep.len hg'
 have keep1:∀ c∈F1,w'.heap[c]?=w.heap[c]?:=fun c hc1=>by
   refine hch.chg.block c (Cells.lt c1 c hc1) fun hm=>?_
   rcases List.mem_cons.1 hm with rfl | hm
   · exact hbn (by simp [hc1])
   exact hn3 c hc1 c (by simp [hm]) rfl
 have keep2:∀ c∈F2,w'.heap[c]?=w.heap[c]?:=fun c hc1=>by
   refine hch.chg.block c (Cells.lt c2 c hc1) fun hm=>?_
   rcases List.mem_cons.1 hm with rfl | hm
   · exact hbn (by simp [hc1])
   exact hn4 c hm c hc1 rfl
 refine ⟨b :: (F1++(G'++F2)),⟨⟨_,⟨some ⟨b,o,none⟩,cap,F1++(G'++F2),x1++(cg'++x2),by simp,by simpa using h1,h2,?_,.inr ⟨b,o,rfl,rfl,?_,?_⟩⟩,rfl⟩,zl3 hn' hnG' hs,?_⟩,?_⟩
 · have:l.set k y'=l.take k++(y' :: l.drop (k+1)):=by rw [List.set_eq_take_append_cons_drop];simp [hk]
   rw [this]
   exact Cells.append (Cells.keep c1 keep1) ⟨G',F2,cg',x2,rfl,rfl,hg',Cells.keep c2 keep2⟩
 · refine zc2 (hch.range hwb r1 (.inl (by omega))) (zc2 (by rw [hl1];exact rg') ?_)
   have e3:o+x1.length+cg'.length=o+k*Rep.size α+cg.length:=by omega
   rw [e3]
   exact hch.range hwb r3 (.inr (by omega))
 · obtain ⟨c,e,h⟩:=hwb';exact (Array.getElem?_eq_some_iff.1 h).1
 · intro c hcm
   rcases List.mem_cons.1 hcm with rfl | hcm
   · exact hwb'
   rcases List.mem_append.1 hcm with hcm | hcm
   · exact (hw.sub (G:=F1) (by simp +contextual)).keep keep1 c hcm
   rcases List.mem_append.1 hcm with hcm | hcm
   · exact hwG' c hcm
   exact (hw.sub (G:=F2) (by simp +contextual)).keep keep2 c hcm
 intro c hcm
 rcases List.mem_cons.1 hcm with rfl | hcm
 · exact .inl (by simp)
 rcases List.mem_append.1 hcm with hcm | hcm
 · exact .inl (by simp [hcm])
 rcases List.mem_append.1 hcm with hcm | hcm
 · exact .inr hcm
 exact .inl (by simp [hcm])
section pair
variable {γ:Type}
theorem Lens.fst {H:List Nat→World→γ→Prop} {F:List Nat} {b o:Nat} {G:List Nat} {p:α×β} {upd:α×β→γ} (h:Lens H F w b o G p upd) :
   ∃ G1,Lens H F w b o G1 p.1 (fun y=>upd (y,p.2)):=by
 obtain ⟨⟨cs,⟨G1,G2,c1,c2,rfl,rfl,h1,h2⟩,hr,hn,hw,hb,hwb⟩,hsub,hback⟩:=h
 obtain ⟨r1,r2⟩:=zaE hr
 have hl1:=Rep.len h1
 have hl2:=Rep.len h2
 have hn':=hn
 rw [List.nodup_append] at hn
 obtain ⟨hn1,hn2,hn3⟩:=hn
 simp only [List.mem_append,not_or] at hb
 refine ⟨G1,⟨c1,h1,r1,hn1,hw.sub (by simp +contextual),hb.1,hwb⟩,fun c hc=>hsub c (by rcases List.mem_cons.1 hc with rfl | hc<;>simp_all),fun w' G' y' hch hO hs=>?_⟩
 obtain ⟨c1',h1',r1',hn1',hw1',hb1',hwb'⟩:=hO
 have keep2:∀ c∈G2,w'.heap[c]?=w.heap[c]?:=fun c hc=>by
   refine hch.chg.block c (Rep.lt h2 c hc) fun hm=>?_
   rcases List.mem_cons.1 hm with rfl | hm
   · exact hb.2 hc
   exact hn3 c hm c hc rfl
 have hs':∀ c∈G'++G2,c∈G1++G2∨c∉F:=fun c hc=>by
   rcases List.mem_append.1 hc with hc | hc
   · rcases hs c hc with h | h
     · exact .inl (by simp [h])
     exact .inr h
   exact .inl (by simp [hc])
 have hnG:(G'++G2).Nodup:=by
   rw [List.nodup_append]
   refine ⟨hn1',hn2,fun a ha c hc e=>?_⟩
   subst e
   rcases hs a ha with h | h
   · exact hn3 a h a hc rfl
   exact h (hsub a (by simp [hc]))
 obtain ⟨F',hM,hF'⟩:=hback w' (G'++G2) (y',p.2) (hch.mono (Nat.le_refl _) (by simp only [Rep.size];omega) (by simp +contextual))
   ⟨c1'++c2,⟨G',G2,c1',c2,rfl,rfl,h1',Rep.keep h2 keep2⟩,zc2 r1' (by
     rw [Rep.len h1',←hl1];exact hch.range hwb r2 (.inr (by rw [hl1];exact Nat.le_refl _))),hnG,hw1'.append ((hw.sub (by simp +contextual)).keep keep2),by simp [hb1',hb.2],hwb'⟩ hs'
 refine ⟨F',hM,fun c hc=>?_⟩
 rcases hF' c hc with h | h
 · exact .inl h
 rcases List.mem_append.1 h with h | h
 · exact .inr h
 exact .inl (hsub c (by simp [h]))
theorem Lens.snd {H:List Nat→World→γ→Prop} {F:List Nat} {b o:Nat} {G:List Nat} {p:α×β} {upd:α×β→γ} (h:Lens H F w b o G p upd) :
   ∃ G1,Lens H F w b (o+Rep.size α) G1 p.2 (fun y=>upd (p.1,y)):=by
 obtain ⟨⟨cs,⟨G1,G2,c1,c2,rfl,rfl,h1,h2⟩,hr,hn,hw,hb,hwb⟩,hsub,hback⟩:=h
 obtain ⟨r1,r2⟩:=zaE hr
 have hl1:=Rep.len h1
 have hl2:=Rep.len h2
 have hn':=hn
 rw [List.nodup_append] at hn
 obtain ⟨hn1,hn2,hn3⟩:=hn
 simp only [List.mem_append,not_or] at hb
 rw [hl1] at r2
 refine ⟨G2,⟨c2,h2,r2,hn2,hw.sub (by simp +contextual),hb.2,hwb⟩,fun c hc=>hsub c (by rcases List.mem_cons.1 hc with rfl | hc<;>simp_all),fun w' G' y' hch hO hs=>?_⟩
 obtain ⟨c2',h2',r2',hn2',hw2',hb2',hwb'⟩:=hO
 have keep1:∀ c∈G1,w'.heap[c]?=w.heap[c]?:=fun c hc=>by
   refine hch.chg.block c (Rep.lt h1 c hc) fun hm=>?_
   rcases List.mem_cons.1 hm with rfl | hm
   · exact hb.1 hc
   exact hn3 c hc c hm rfl
 have hs':∀ c∈G1++G',c∈G1++G2∨c∉F:=fun c hc=>by
   rcases List.mem_append.1 hc with hc | hc
   · exact .inl (by simp [hc])
   rcases hs c hc with h | h
   · exact .inl (by simp [h])
   exact .inr h
 have hnG:(G1++G').Nodup:=by
   rw [List.nodup_append]
   refine ⟨hn1,hn2',fun a ha c hc e=>?_⟩
   subst e
   rcases hs a hc with h | h
   · exact hn3 a ha a h rfl
   exact h (hsub a (by simp [ha]))
 obtain ⟨F',hM,hF'⟩:=hback w' (G1++G') (p.1,y') (hch.mono (by omega) (by simp only [Rep.size];omega) (by simp +contextual))
   ⟨c1++c2',⟨G1,G',c1,c2',rfl,rfl,Rep.keep h1 keep1,h2'⟩,zc2 (hch.range hwb r1 (.inl (by rw [hl1];exact Nat.le_refl _))) (by rw [hl1];exact r2'),hnG,((hw.sub (by simp +contextual)).keep keep1).append hw2',by simp [hb.1,hb2'],hwb'⟩ hs'
 refine ⟨F',hM,fun c hc=>?_⟩
 rcases hF' c hc with h | h
 · exact .inl h
 rcases List.mem_append.1 h with h | h
 · exact .inl (hsub c (by simp [h]))
 exact .inr h
theorem Lens.row {H:List Nat→World→γ→Prop} {F:List Nat} {b o:Nat} {G:List Nat} {l:List β} {upd:List β→γ} (h:Lens H F w b o G l upd) :
   ∃ u,Mine G w u l∧w.rangeAt b o [u]∧(∀ c∈G,c∈F) ∧
     ∀ w' G' l',Chg G w w'→Mine G' w' u l'→(∀ c∈G',c∈G∨c∉F)→∃ F',H F' w' (upd l')∧∀ c∈F',c∈F∨c∈G':=by
 obtain ⟨⟨cs,hrep,hr,hn,hw,hb,hwb⟩,hsub,hback⟩:=h
 have hcs:∃ u,cs=[u]:=by obtain ⟨a,cap,Fi,xs,rfl,_⟩:=hrep;exact ⟨_,rfl⟩
 obtain ⟨u,rfl⟩:=hcs
 refine ⟨u,⟨⟨_,hrep,rfl⟩,hn,hw⟩,hr,fun c hc=>hsub c (by simp [hc]),fun w' G' l' hch hM hs=>?_⟩
 have hbl:b<w.heap.size:=by obtain ⟨c,e,h⟩:=hwb;exact (Array.getElem?_eq_some_iff.1 h).1
 have hbk:w'.heap[b]?=w.heap[b]?:=hch.block b hbl hb
 obtain ⟨⟨cs',hrep',hv'⟩,hn',hw'⟩:=hM
 have hcs':cs'=[u]:=by
   obtain ⟨a,cap,Fi,xs,rfl,_⟩:=hrep'
   simp only [mkv,Rep.agg,cond_false,List.headD_cons] at hv'
   rw [hv']
 subst hcs'
 have hbG':b∉G':=fun hm=>by
   rcases hs b hm with h | h
   · exact hb h
   exact h (hsub b (by simp))
 exact hback w' G' l' ⟨hch.mono (by simp +contextual),fun c e hc=>⟨c,by rw [hbk];exact hc,fun _ _=>rfl⟩⟩
   ⟨_,hrep',zbX hr hbk,hn',hw',hbG',by obtain ⟨c,e,h⟩:=hwb;exact ⟨c,e,by rw [hbk];exact h⟩⟩ hs
end pair
theorem zl4 {t by_ b o:Nat} {G:List Nat} {y y':β} {u:Value} {G':List Nat} {K:World→Prop} (ht:tyI P t=some (Rep.size β,by_,Rep.agg β)) (h:OAt G w b o y)
   (hu:OwnF G' w u y') (hn:G'.Nodup) (hwr:Wr G' w) (hb:b∉G') (k:∀ w',ChgAt b o (Rep.size β) [] w w'→OAt G' w' b o y'→K w'):OPU P (Instr.storeAt t (.pointer (some ⟨b,o,none⟩)) u) w K:=by
 obtain ⟨us,hr,rfl⟩:=hu
 obtain ⟨cs,hr0,ha,hn0,hw0,hb0,c,e,hc⟩:=h
 have hl0:=Rep.len hr0
 have hlu:=Rep.len hr
 have hpos:=Rep.pos (α:=β)
 have hcell:∀ j,j<cs.length→c[o+j]?=cs[j]?:=by
   intro j hj
   have:=ha j cs[j] (by simp [hj])
   simpa [World.cell?,hc,hj] using this
 have hfit:o+Rep.size β≤c.size:=by
   have hj:cs.length-1<cs.length:=by omega
   have:=hcell (cs.length-1) hj
   rw [List.getElem?_eq_getElem hj] at this
   have:=(Array.getElem?_eq_some_iff.1 this).1
   omega
 have hst:=zbZ (P:=P) (e:=e) (cur:=c) ht hr hc hfit
 have hset:=setRow_heap w b c ((c.toList.take o++us++c.toList.drop (o+us.length)).toArray) e _ hc
 refine ⟨_,hst,k _ ⟨(zcm w b _).mono (by simp),fun c1 e1 hc1=>?_⟩ ?_⟩
 · rw [hc] at hc1
   simp only [Option.some.injEq,Obj.cells.injEq,and_true] at hc1
   obtain ⟨rfl,rfl⟩:=hc1
   refine ⟨_,hset,fun j hj=>?_⟩
   simp only [List.getElem?_toArray]
   rcases hj with hj | hj
   · rw [List.append_assoc,List.getElem?_append_left (by simp only [List.length_take,Array.length_toList];omega),List.getElem?_take,if_pos hj,Array.getElem?_toList]
   rw [List.getElem?_append_right (by simp only [List.length_append,List.length_take,Array.length_toList];omega),List.getElem?_drop,Array.getElem?_toList]
   congr 1
   simp only [List.length_append,List.length_take,Array.length_toList];omega
 have hkeep:∀ x∈G',(w.setRow b ((c.toList.take o++us++c.toList.drop (o+us.length)).toArray)).heap[x]?=w.heap[x]?:=fun x hx=>
   (zcm w b _).block x (hwr.lt x hx) (by simp;exact fun e=>hb (e▸hx))
 refine ⟨us,Rep.keep hr hkeep,fun j v hv=>?_,hn,hwr.keep hkeep,hb,_,e,hset⟩
 have hj:j<us.length:=(List.getElem?_eq_some_iff.1 hv).1
 simp only [World.cell?,hset]
 simp only [Option.isSome_none,Bool.false_eq_true,if_false,List.getElem?_toArray]
 rw [List.append_assoc,List.getElem?_append_right (by simp only [List.length_take,Array.length_toList];omega),List.getElem?_append_left (by simp only [List.length_take,Array.length_toList];omega),←hv]
 congr 1
 simp only [List.length_take,Array.length_toList];omega
theorem znK {t by_ b o:Nat} {H:List Nat→World→α→Prop} {F G:List Nat} {y y':β} {upd:β→α} {u:Value} {G':List Nat} {K:World→Prop} (ht:tyI P t=some (Rep.size β,by_,Rep.agg β)) (h:Lens H F w b o G y upd)
   (hu:Mine G' w u y') (hs:∀ c∈G',c∈G∨c∉F) (k:∀ w',Chg F w w'→(∃ F',H F' w' (upd y')∧∀ c∈F',c∈F∨c∈G')→K w'):OPU P (Instr.storeAt t (.pointer (some ⟨b,o,none⟩)) u) w K:=by
 have hbG':b∉G':=fun hm=>by
   rcases hs b hm with h' | h'
   · obtain ⟨cs,_,_,_,_,hb,_⟩:=h.here;exact hb h'
   exact h' (h.sub b (by simp))
 refine zl4 ht h.here hu.own hu.nodup hu.wr hbG' fun w' hch hO=>k w' (hch.chg.mono fun c hc=>h.sub c (by simp at hc;simp [hc])) ?_
 obtain ⟨F',h1,h2⟩:=h.back w' G' y' (hch.mono (Nat.le_refl _) (Nat.le_refl _) (by simp)) hO hs
 exact ⟨F',h1,h2⟩
end
class RepZ (α:Type) [Rep α] where
 zv:α
 zc:List Value
 zr:∀ w,rep [] w zc zv
instance:RepZ Int:=⟨0,[.int .i64 0],fun _=>⟨rfl,rfl,by unfold I64;omega⟩⟩
instance:RepZ Bool:=⟨false,[.bool false],fun _=>⟨rfl,rfl⟩⟩
instance:RepZ ByteArray:=⟨ByteArray.empty,[.string ByteArray.empty],fun _=>⟨rfl,rfl,Nat.zero_le _⟩⟩
instance {α:Type} [Rep α]:RepZ (List α):=⟨[],[.slice none 0 0],fun _=>⟨none,0,[],[],rfl,Nat.le_refl _,Nat.zero_le _,⟨rfl,rfl⟩,.inl ⟨rfl,rfl⟩⟩⟩
instance {α β:Type} [Rep α] [Rep β] [RepZ α] [RepZ β]:RepZ (α×β):=⟨((RepZ.zv:α),(RepZ.zv:β)),RepZ.zc α++RepZ.zc β,fun w=>⟨[],[],_,_,rfl,rfl,RepZ.zr w,RepZ.zr w⟩⟩
def OwnI {α:Type} [Rep α] (lo hi:Nat) (w:World) (v:Value) (x:α):Prop:=∃ F,Mine F w v x∧∀ b∈F,lo≤b∧b<hi
structure ChgI (lo hi:Nat) (w w':World):Prop where
 os:w'.os=w.os
 tape:w'.tape=w.tape
 output:w'.output=w.output
 size:w.heap.size≤w'.heap.size
 block:∀ b,b<w.heap.size→(b<lo∨hi≤b)→w'.heap[b]?=w.heap[b]?
section
variable {w w':World} {α:Type} [Rep α] {lo hi a b:Nat} {v:Value} {x:α}
theorem Chg.toI {F:List Nat} (h:Chg F w w') (hF:∀ b∈F,lo≤b∧b<hi):ChgI lo hi w w':=
 ⟨h.os,h.tape,h.output,h.size,fun i hi' ho=>h.block i hi' fun e=>by have:=hF i e;omega⟩
theorem Ext.toI (h:Ext w w'):ChgI lo hi w w':=⟨h.os,h.tape,h.output,h.size,fun i hi' _=>h.block i hi'⟩
theorem ChgI.refl (w:World):ChgI lo hi w w:=⟨rfl,rfl,rfl,Nat.le_refl _,fun _ _ _=>rfl⟩
theorem ChgI.trans {w'':World} (h:ChgI lo hi w w') (k:ChgI lo hi w' w''):ChgI lo hi w w'':=
 ⟨k.os.trans h.os,k.tape.trans h.tape,k.output.trans h.output,Nat.le_trans h.size k.size,fun i hi' ho=>(k.block i (Nat.lt_of_lt_of_le hi' h.size) ho).trans (h.block i hi' ho)⟩
theorem ChgI.mono {lo' hi':Nat} (h:ChgI lo hi w w') (h1:lo'≤lo) (h2:hi≤hi'):ChgI lo' hi' w w':=
 ⟨h.os,h.tape,h.output,h.size,fun i hi' ho=>h.block i hi' (by omega)⟩
theorem Ext.chgI {c:World} (h:Ext w w') (k:ChgI lo hi w' c) (hl:w.heap.size≤lo):Ext w c:=
 ⟨k.os.trans h.os,k.tape.trans h.tape,k.output.trans h.output,Nat.le_trans h.size k.size,fun i hi'=>(k.block i (Nat.lt_of_lt_of_le hi' h.size) (by omega)).trans (h.block i hi')⟩
theorem Own.toI (h:Own lo w v x):OwnI lo w.heap.size w v x:=by
 obtain ⟨F,hm,hl⟩:=h;exact ⟨F,hm,fun b hb=>⟨hl b hb,hm.lt b hb⟩⟩
theorem OwnI.own (h:OwnI lo hi w v x):Own lo w v x:=by
 obtain ⟨F,hm,hl⟩:=h;exact ⟨F,hm,fun b hb=>(hl b hb).1⟩
theorem OwnI.is (h:OwnI lo hi w v x):Is w v x:=by obtain ⟨F,hm,_⟩:=h;exact hm.is
theorem OwnI.ext (h:OwnI lo hi w v x) (hx:Ext w w'):OwnI lo hi w' v x:=by obtain ⟨F,hm,hl⟩:=h;exact ⟨F,hm.ext hx,hl⟩
theorem OwnI.chg (h:OwnI lo hi w v x) (hc:ChgI a b w w') (hd:hi≤a∨b≤lo):OwnI lo hi w' v x:=by
 obtain ⟨F,hm,hl⟩:=h
 exact ⟨F,hm.keep fun c hcm=>hc.block c (hm.lt c hcm) (by have:=hl c hcm;omega),hl⟩
theorem OwnI.mono {lo' hi':Nat} (h:OwnI lo hi w v x) (h1:lo'≤lo) (h2:hi≤hi'):OwnI lo' hi' w v x:=by
 obtain ⟨F,hm,hl⟩:=h;exact ⟨F,hm,fun b hb=>by have:=hl b hb;omega⟩
def VarI {α:Type} [Rep α] (lo hi:Nat) (w:World) (g:Nat) (x:α):Prop:=∃ F,OAt F w g 0 x∧∀ b∈F,lo≤b∧b<hi
theorem OAt.keep {F:List Nat} {g o:Nat} (h:OAt F w g o x) (hk:∀ c∈g :: F,w'.heap[c]?=w.heap[c]?):OAt F w' g o x:=by
 obtain ⟨cs,hr,ha,hn,hw,hb,c,e,hc⟩:=h
 have hg:=hk g (by simp)
 exact ⟨cs,Rep.keep hr fun b hb=>hk b (by simp [hb]),zbX ha hg,hn,hw.keep fun b hb=>hk b (by simp [hb]),hb,c,e,by rw [hg];exact hc⟩
theorem VarI.lt {g:Nat} (h:VarI lo hi w g x):g<w.heap.size:=by obtain ⟨F,h,_⟩:=h;exact h.lt
theorem OAt.lts {F:List Nat} {g o:Nat} (h:OAt F w g o x):∀ c∈g :: F,c<w.heap.size:=by
 intro c hc
 rcases List.mem_cons.1 hc with rfl | hc
 · exact h.lt
 obtain ⟨cs,hr,_⟩:=h;exact Rep.lt hr c hc
theorem VarI.ext {g:Nat} (h:VarI lo hi w g x) (hx:Ext w w'):VarI lo hi w' g x:=by
 obtain ⟨F,h,hl⟩:=h
 exact ⟨F,h.keep fun c hc=>hx.heap (h.lts c hc),hl⟩
theorem VarI.chg {g:Nat} (h:VarI lo hi w g x) (hc:ChgI a b w w') (hd:hi≤a∨b≤lo) (hg:g<a∨b≤g):VarI lo hi w' g x:=by
 obtain ⟨F,h,hl⟩:=h
 refine ⟨F,h.keep fun c hcm=>hc.block c (h.lts c hcm) ?_,hl⟩
 rcases List.mem_cons.1 hcm with rfl | hcm
 · omega
 have:=hl c hcm;omega
theorem VarI.at {g:Nat} (h:VarI lo hi w g x):At w g 0 x:=by obtain ⟨F,h,_⟩:=h;exact h.at
theorem VarI.own {g:Nat} (h:VarI lo hi w g x):∃ v,OwnI lo hi w v x∧∃ cs F,Rep.rep F w cs x∧w.rangeAt g 0 cs∧v=mkv α cs:=by
 obtain ⟨F,⟨cs,hr,ha,hn,hw,_⟩,hl⟩:=h
 exact ⟨mkv α cs,⟨F,⟨⟨cs,hr,rfl⟩,hn,hw⟩,hl⟩,cs,F,hr,ha,rfl⟩
section
variable {P:Program} {w0:World}
theorem zfh [RepZ α] {e:TypeId} {K:Value→World→Prop} (hz:zcj P e=some (RepZ.zc α))
   (k:∀ w',Ext w w'→VarI w'.heap.size w'.heap.size w' w.heap.size ((RepZ.zv:α))→K (.pointer (some ⟨w.heap.size,0,none⟩)) w'):OP P (Instr.alloc e true (.tuple #[])) w K:=
 zkB hz fun w' hx hB=>k w' hx ⟨[],⟨RepZ.zc α,RepZ.zr w',hB.range,List.nodup_nil,Wr.nil _,by simp,_,_,hB⟩,by simp⟩
theorem zjK {t by_ g:Nat} {K:Value→Prop} (ht:tyI P t=some (Rep.size α,by_,Rep.agg α)) (h:VarI lo hi w0 g x) (hx:Ext w0 w) (k:∀ v,OwnI lo hi w0 v x→K v) :
   RD P (Instr.loadAt t (.pointer (some ⟨g,0,none⟩))) w K:=by
 obtain ⟨v,ho,cs,F,hr,ha,rfl⟩:=h.own
 exact zaQ (fun w' hx'=>zcK ht (zbC hr (hx.trans hx')) (zbo ha (hx.trans hx'))) (k _ ho)
theorem zhD {t by_ g:Nat} {K:Value→Prop} (ht:tyI P t=some (Rep.size α,by_,Rep.agg α)) (h:VarI lo hi w0 g x) (hx:Ext w0 w) (k:∀ v,OwnI lo hi w0 v x→K v) :
   RD P (zev t (.pointer (some ⟨g,0,none⟩))) w K:=by
 obtain ⟨v,ho,cs,F,hr,ha,rfl⟩:=h.own
 refine zaQ (fun w' hx'=>?_) (k _ ho)
 have:=zcK ht (zbC hr (hx.trans hx')) (zbo ha (hx.trans hx'))
 simpa [zev,asAddr,Instr.loadAt,Instr.sureAddr] using this
theorem zbR {β:Type} [Rep β] {t by_ g o:Nat} {F G:List Nat} {y y':β} {upd:β→α} {u:Value} {lo2 hi2:Nat} {K:World→Prop} (ht:tyI P t=some (Rep.size β,by_,Rep.agg β)) (hL:Lens (VH g) (g :: F) w g o G y upd) (hF:∀ b∈F,lo≤b∧b<hi)
   (hu:OwnI lo2 hi2 w u y') (h1:hi≤lo2) (h2:g<lo2) (k:∀ w',ChgI g (g+1) w w'→(∀ lo',lo'≤lo→lo'≤lo2→∀ hi',hi≤hi'→hi2≤hi'→VarI lo' hi' w' g (upd y'))→K w'):OPU P (Instr.storeAt t (.pointer (some ⟨g,o,none⟩)) u) w K:=by
 obtain ⟨G',hM,hG'⟩:=hu
 have hs:∀ c∈G',c∈G∨c∉g :: F:=fun c hc=>.inr fun hm=>by
   have:=hG' c hc
   rcases List.mem_cons.1 hm with rfl | hm
   · omega
   have:=hF c hm;omega
 have hgG':g∉G':=fun h=>by have:=hG' g h;omega
 refine zl4 ht hL.here hM.own hM.nodup hM.wr hgG' fun w' hch hO=>k w' (hch.chg.toI (by simp)) ?_
 obtain ⟨F',h3,h4⟩:=hL.back w' G' y' (hch.mono (Nat.le_refl _) (Nat.le_refl _) (by simp)) hO hs
 intro lo' hl1 hl2 hi' hh1 hh2
 refine ⟨F',h3,fun c hc=>?_⟩
 rcases h4 c hc with h | h
 · rcases List.mem_cons.1 h with rfl | h
   · obtain ⟨_,_,_,_,_,hn,_⟩:=h3;exact absurd hc hn
   have:=hF c h;omega
 have:=hG' c h;omega
theorem zhE {t by_ g:Nat} {x0:α} {lo0 hi0:Nat} {u:Value} {K:World→Prop} (ht:tyI P t=some (Rep.size α,by_,Rep.agg α)) (hv:VarI lo0 hi0 w g x0) (hu:OwnI lo hi w u x) (hg:g<lo∨hi≤g)
   (k:∀ w',ChgI g (g+1) w w'→VarI lo hi w' g x→K w'):OPU P (Instr.storeAt t (.pointer (some ⟨g,0,none⟩)) u) w K:=by
 obtain ⟨F,hO,_⟩:=hv
 obtain ⟨G',hM,hG'⟩:=hu
 have hgG':g∉G':=fun h=>by have:=hG' g h;omega
 exact zl4 ht hO hM.own hM.nodup hM.wr hgG' fun w' hch hO'=>k w' (hch.chg.toI (by simp)) ⟨G',hO',hG'⟩
end
theorem ownI_int {x:Int} (h:I64 x):OwnI lo hi w (.int .i64 x) x:=⟨[],⟨⟨_,⟨rfl,rfl,h⟩,rfl⟩,List.nodup_nil,Wr.nil w⟩,by simp⟩
theorem znL {x:ByteArray} (h:x.size≤maxLen):OwnI lo hi w (.string x) x:=⟨[],⟨⟨_,⟨rfl,rfl,h⟩,rfl⟩,List.nodup_nil,Wr.nil w⟩,by simp⟩
end
end Go.Sh
namespace Go.Proofs.YtifonhplnmpgaaaGreat
open Go Go.Sh Go.Proofs
open Rep (rep)
def extL:List Nat:=[0,1,263,264,265,266,267,268,269,270,271,272,273,274,275,276,277,278]
set_option maxRecDepth 100000 in
theorem zqb:((List.range 279).all fun f=>extL.elem f || zc0 Tryz.prog f)=true:=by kernel_rfl
theorem ent:∀ f,f<279→extL.elem f=false→zc0 Tryz.prog f=true:=fun f hf hx=>by
 have:=List.all_eq_true.1 zqb f (List.mem_range.2 hf)
 rw [hx,Bool.false_or] at this
 exact this
theorem mixed:Tryz.prog.follows .mixedOrders=true:=by kernel_rfl
end Go.Proofs.YtifonhplnmpgaaaGreat
namespace Go.Proofs.YtifonhplnmpgaaaGreat
open Go Go.Sh Go.Proofs
abbrev VW:=Value→World→Prop
noncomputable abbrev tp:Program:=Tryz.prog
abbrev T0:Operand:=.tmp 0
abbrev U0:Operand:=.const undef
abbrev ln (t y:Nat) (x:Value):Sem Value:=Builtin.len_ #[t] y [x].toArray
theorem zre {u:Nat→Value} {a:Nat} {x:Value} (h:[a].map u=[x]):u a=x:=by simpa using h
theorem zcO {u:Nat→Value} {a b:Nat} {x y:Value} (h:[a,b].map u=[x,y]):u a=x∧u b=y:=by simpa using h
theorem zqP {u:Nat→Value} {a b c:Nat} {x y z:Value} (h:[a,b,c].map u=[x,y,z]):u a=x∧u b=y∧u c=z:=by simpa using h
abbrev iV (x:Int):Value:=.int .i64 x
abbrev cL (f:Nat) (a:List Value) (w:World) (R:Value→World→Prop):Prop:=CALL tp f a w R
abbrev rD (m:Sem Value) (w:World) (K:Value→Prop):Prop:=RD tp m w K
abbrev oP (m:Sem Value) (w:World) (K:Value→World→Prop):Prop:=OP tp m w K
abbrev rL (t:Nat) (x:Value) (w:World) (K:Value→Prop):Prop:=RD tp (Instr.loadAt t x) w K
abbrev rF (t:Nat) (x:Value) (i:Nat) (w:World) (K:Value→Prop):Prop:=RD tp (Instr.fieldAt t x i) w K
abbrev rX (t:Nat) (x i:Value) (w:World) (K:Value→Prop):Prop:=RD tp (Instr.indexAt t x i) w K
abbrev rN (t y:Nat) (x:Value) (w:World) (K:Value→Prop):Prop:=RD tp (ln t y x) w K
abbrev rC (a b:Value) (w:World) (K:Value→Prop):Prop:=RD tp (bin .lss 3 T0 T0 a b) w K
abbrev rA (a b:Value) (w:World) (K:Value→Prop):Prop:=RD tp (bin .add 3 T0 U0 a b) w K
abbrev rB (o:BinOp) (t:Nat) (x y:Operand) (a b:Value) (w:World) (K:Value→Prop):Prop:=RD tp (bin o t x y a b) w K
abbrev oS (t:Nat) (x v:Value) (w:World) (K:World→Prop):Prop:=OPU tp (Instr.storeAt t x v) w K
abbrev oU (m:Sem Unit) (w:World) (K:World→Prop):Prop:=OPU tp m w K
abbrev rE (x:Value) (i:Nat) (w:World) (K:Value→Prop):Prop:=RD tp (Instr.extract x i) w K
theorem co {g:Cfg} {f:FuncId} {fn:Func} {args:List Value} {w:World} {R:VW} {F:Prop} (hf:tp.funcs[f]?=some fn) (hl:args.length.ble fn.ntmps=true) (hok:okF g 279 fn=true) (e:vcF tp g fn args w R=F) (h:F) (hg:g.ext=extL:=by rfl):CALL tp f args w R:=
 zpg (hg▸ent) mixed hf (Nat.le_of_ble_eq_true hl) hok (e▸h)
def F40 (a0:Value) (w:World) (R:VW):Prop:=
 rN 23 3 a0 w fun x6=>
 oP (Instr.makeSlice 23 x6 x6) w fun x7 w=>
 LOOPI [4] [(iV 0)] w fun u3 w next3=>
 rN 23 3 a0 w fun x10=>
 rC (u3 4) x10 w fun x11=>
 BR x11
 (rX 23 a0 (u3 4) w fun x18=>
 rL 3 x18 w fun x19=>
 rX 23 x7 (u3 4) w fun x20=>
 oS 3 x20 x19 w fun w=>
 rA (u3 4) (iV 1) w fun x13=>
 next3 [x13] w)
 (R x7 w)
def cfg40:Cfg:=⟨extL,[],[(3,2096912,[4])],[],[],[],[]⟩
theorem F40_call {a0:Value} {w:World} {R:VW} (h:F40 a0 w R):cL 40 [a0] w R:=co (g:=cfg40) Tryz.func40 (by kernel_rfl) (by kernel_rfl) (by kernel_rfl) h
def F11 (a0 a1:Value) (w:World) (R:VW):Prop:=
 rN 23 3 a0 w fun x7=>
 rN 23 3 a1 w fun x9=>
 rB .neq 3 T0 T0 x7 x9 w fun x10=>
 BR x10
 (R (Value.bool false) w)
 (LOOPI [5] [(iV 0)] w fun u4 w next4=>
 rN 23 3 a0 w fun x13=>
 rC (u4 5) x13 w fun x14=>
 BR x14
 ((fun w=>rX 23 a0 (u4 5) w fun x19=>
 rL 3 x19 w fun x20=>
 rX 23 a1 (u4 5) w fun x23=>
 rL 3 x23 w fun x24=>
 rB .neq 3 T0 T0 x20 x24 w fun x25=>
 BR x25
 (R (Value.bool false) w)
 (rA (u4 5) (iV 1) w fun x16=>
 next4 [x16] w)) (World.drew1 w))
 (R (Value.bool true) w))
def cfg11:Cfg:=⟨extL,[],[(4,67106864,[5])],[(6,[0,1,2,3,4,5,6,7,8],0)],[],[],[]⟩
theorem F11_call {a0 a1:Value} {w:World} {R:VW} (h:F11 a0 a1 w R):cL 11 [a0,a1] w R:=co (g:=cfg11) Tryz.func11 (by kernel_rfl) (by kernel_rfl) (by kernel_rfl) h
def F14 (a0 a1:Value) (w:World) (R:VW):Prop:=
 LOOPI [1,5] [a1,(iV 0)] w fun u2 w next2=>
 rN 23 3 a0 w fun x8=>
 rC (u2 5) x8 w fun x9=>
 BR x9
 (rX 23 a0 (u2 5) w fun x15=>
 oS 3 x15 (u2 1) w fun w=>
 rA (u2 1) (iV 1) w fun x17=>
 rA (u2 5) (iV 1) w fun x11=>
 next2 [x17,x11] w)
 (R (u2 1) w)
def cfg14:Cfg:=⟨extL,[],[(2,262114,[1,5])],[],[],[],[]⟩
theorem F14_call {a0 a1:Value} {w:World} {R:VW} (h:F14 a0 a1 w R):cL 14 [a0,a1] w R:=co (g:=cfg14) Tryz.func14 (by kernel_rfl) (by kernel_rfl) (by kernel_rfl) h
def F15 (a0 a1:Value) (w:World) (R:VW):Prop:=
 LOOPI [1,5] [a1,(iV 0)] w fun u2 w next2=>
 rN 23 3 a0 w fun x8=>
 rC (u2 5) x8 w fun x9=>
 BR x9
 (rX 23 a0 (u2 5) w fun x14=>
 rL 3 x14 w fun x15=>
 rB .neq 3 T0 T0 x15 (u2 1) w fun x17=>
 BR x17
 (R (iV (-1)) w)
 (rA (u2 1) (iV 1) w fun x19=>
 rA (u2 5) (iV 1) w fun x11=>
 next2 [x19,x11] w))
 (R (u2 1) w)
def cfg15:Cfg:=⟨extL,[],[(2,1048562,[1,5])],[],[],[],[]⟩
theorem F15_call {a0 a1:Value} {w:World} {R:VW} (h:F15 a0 a1 w R):cL 15 [a0,a1] w R:=co (g:=cfg15) Tryz.func15 (by kernel_rfl) (by kernel_rfl) (by kernel_rfl) h
theorem zfC:tyI Tryz.prog 3=some (1,8,false):=by kernel_rfl
theorem zq3:zbq Tryz.prog 3=true:=by kernel_rfl
theorem zeV:Tryz.prog.underlying 23=some (.slice 3):=by kernel_rfl
theorem zl5 {w:World} {x:Int} (h:I64 x):Mine [] w (.int .i64 x) x:=⟨⟨_,⟨rfl,rfl,h⟩,rfl⟩,List.nodup_nil,Wr.nil w⟩
theorem zl6 {w:World} {v:Value} {l:List Int} (h:Is w v l) (hn:l.length≤1048576) :
   CALL Tryz.prog 40 [v] w fun r w'=>Ext w w'∧Own w.heap.size w' r l:=by
 refine F40_call ?_
 unfold F40
 refine zae zeV h ?_
 refine zhz (α:=Int) zeV zfC zq3 (by omega) (by omega) fun w1 hx1 hf=>?_
 refine zaq l.length (fun k us w'=>us=[.int .i64 (k:Int)]∧Ext w w'∧Fill w.heap.size 3 l.length [] w' (l.take k)) 0 (Nat.zero_le _) ⟨rfl,hx1,by simpa using hf⟩ ?_
 rintro k m u w2 hkm ⟨hu,hx2,hf2⟩
 simp only [List.map_cons,List.map_nil,List.cons.injEq,and_true] at hu
 rw [hu]
 refine zae zeV h ?_
 refine zah ?_
 refine br (fun hlt=>?_) (fun hge=>?_)
 · have hk:k<l.length:=by omega
   refine zac zeV zfC h hk fun b o hA=>?_
   refine zad zfC hA hx2 fun hI=>?_
   refine zcL zeV zfC hk ?_
   refine zfH (α:=Int) zfC hf2 (by simp [Rep.size];omega) (by simp;omega) (zl5 hI) (by simp) fun w3 hc3 hf3=>?_
   refine zaf (by have:=zai h;omega) ?_
   refine ⟨m-1,by omega,k+1,by omega,rfl,hx2.chg_trans hc3 (by simp),?_⟩
   rw [List.take_succ_eq_append_getElem hk]
   simpa using hf3
 have hk:k=l.length:=by omega
 subst hk
 rw [List.take_length] at hf2
 exact ⟨hx2,_,hf2.own rfl (by rw [zam];omega),by simp⟩
theorem zl7 {w w1 w2:World} {v1 v2:Value} {l1 l2:List Int} (h1:Is w1 v1 l1) (h2:Is w2 v2 l2) (hx1:Ext w1 w) (hx2:Ext w2 w) :
   CALL Tryz.prog 11 [v1,v2] w fun r w'=>Ext w w'∧r=.bool (decide (l1=l2)):=by
 refine F11_call ?_
 unfold F11
 refine zae zeV h1 ?_
 refine zae zeV h2 ?_
 refine zaI ?_
 refine br (fun hne=>?_) (fun heq=>?_)
 · refine ⟨Ext.refl w,?_⟩
   have:l1≠l2:=fun e=>hne (by rw [e])
   simp [this]
 have hl:l1.length=l2.length:=by omega
 refine zaq l1.length (fun k us w'=>us=[.int .i64 (k:Int)]∧Ext w w'∧l1.take k=l2.take k) 0 (Nat.zero_le _) ⟨rfl,Ext.refl w,by simp⟩ ?_
 rintro k m u w3 hkm ⟨hu,hx3,heq3⟩
 simp only [List.map_cons,List.map_nil,List.cons.injEq,and_true] at hu
 rw [hu]
 refine zae zeV h1 ?_
 refine zah ?_
 refine br (fun hlt=>?_) (fun hge=>?_)
 · have hk:k<l1.length:=by omega
   have hk2:k<l2.length:=by omega
   have hx4:=hx3.trans (zan w3)
   refine zac zeV zfC h1 hk fun b o hA=>?_
   refine zad zfC hA (hx1.trans hx4) fun hI=>?_
   refine zac zeV zfC h2 hk2 fun b o hA=>?_
   refine zad zfC hA (hx2.trans hx4) fun hI=>?_
   refine zaI ?_
   refine br (fun hne=>?_) (fun he=>?_)
   · refine ⟨hx4,?_⟩
     have:l1≠l2:=fun e=>hne (by subst e;rfl)
     simp [this]
   refine zaf (by have:=zai h1;omega) ?_
   refine ⟨m-1,by omega,k+1,by omega,rfl,hx4,?_⟩
   rw [List.take_succ_eq_append_getElem hk,List.take_succ_eq_append_getElem hk2,heq3,Decidable.not_not.1 he]
 refine ⟨hx3,?_⟩
 have hk:l1.length≤k:=by omega
 rw [List.take_of_length_le hk,List.take_of_length_le (by omega)] at heq3
 simp [heq3]
def cnt (k:Int) (n:Nat):List Int:=(List.range n).map fun i:Nat=>k+(i:Int)
theorem zfi (k:Int) (n:Nat):(cnt k n).length=n:=by simp [cnt]
theorem znM (k:Int) (n:Nat):cnt k (n+1)=cnt k n++[k+n]:=by simp [cnt,List.range_succ]
theorem zf5 {w:World} {F:List Nat} {v:Value} {l:List Int} {k:Int} (h:Mine F w v l) (hn:l.length≤1073741824) (hk0:0≤k) (hk1:k≤4611686018427387904) :
   CALL Tryz.prog 14 [v,.int .i64 k] w fun r w'=>r=.int .i64 (k+l.length)∧Chg F w w'∧Mine F w' v (cnt k l.length):=by
 refine F14_call ?_
 unfold F14
 refine zaq l.length (fun i us w'=>us=[.int .i64 (k+i),.int .i64 (i:Int)]∧Chg F w w'∧Mine F w' v (cnt k i++l.drop i)) 0 (Nat.zero_le _) ⟨by simp,Chg.refl _ _,by simpa [cnt] using h⟩ ?_
 rintro i m u w2 hkm ⟨hu,hc2,hm2⟩
 obtain ⟨hu1,hu2⟩:=zcO hu
 rw [hu1,hu2]
 have hlen:(cnt k i++l.drop i).length=l.length:=by simp [zfi];omega
 refine zae zeV hm2.is ?_
 rw [hlen]
 refine zah ?_
 refine br (fun hlt=>?_) (fun hge=>?_)
 · have hi:i<l.length:=by omega
   refine znI (α:=Int) zeV zfC hm2 (by omega) (zl5 (w:=w2) (x:=k+i) (by unfold I64;omega)).own fun w3 hc3 hm3=>?_
   refine zcA (by unfold I64;omega) ?_
   refine zaf (by omega) ?_
   refine ⟨m-1,by omega,i+1,by omega,by simp [Int.add_assoc],hc2.trans hc3,?_⟩
   have:(cnt k i++l.drop i).set i (k+i)=cnt k (i+1)++l.drop (i+1):=by
     rw [List.drop_eq_getElem_cons hi,List.set_append_right _ _ (by simp [zfi]),zfi,Nat.sub_self,List.set_cons_zero,znM]
     simp
   rw [←this];exact hm3
 have:i=l.length:=by omega
 subst this
 exact ⟨rfl,hc2,by simpa using hm2⟩
theorem zjL {w w0:World} {v:Value} {n:Nat} {k:Int} (h:Is w0 v (cnt k n)) (hx:Ext w0 w) (hn:n≤1073741824) (hk0:0≤k) (hk1:k≤4611686018427387904) :
   CALL Tryz.prog 15 [v,.int .i64 k] w fun r w'=>r=.int .i64 (k+n)∧Ext w w':=by
 refine F15_call ?_
 unfold F15
 refine zaq n (fun i us w'=>us=[.int .i64 (k+i),.int .i64 (i:Int)]∧Ext w w') 0 (Nat.zero_le _) ⟨by simp,Ext.refl w⟩ ?_
 rintro i m u w2 hkm ⟨hu,hx2⟩
 obtain ⟨hu1,hu2⟩:=zcO hu
 rw [hu1,hu2]
 refine zae zeV h ?_
 rw [zfi]
 refine zah ?_
 refine br (fun hlt=>?_) (fun hge=>?_)
 · have hi:i<n:=by omega
   refine zac zeV zfC h (by rw [zfi];exact hi) fun b o hA=>?_
   refine zad zfC hA (hx.trans hx2) fun hI=>?_
   refine zaI ?_
   have e:(cnt k n)[i]'(by rw [zfi];exact hi)=k+i:=by simp [cnt]
   rw [e]
   refine br (fun hne=>absurd rfl hne) (fun _=>?_)
   refine zcA (by unfold I64;omega) ?_
   refine zaf (by omega) ?_
   exact ⟨m-1,by omega,i+1,by omega,by simp [Int.add_assoc],hx2⟩
 have:i=n:=by omega
 subst this
 exact ⟨rfl,hx2⟩
theorem u2:Tryz.prog.underlying 2=some (TypeDesc.int IntKind.i64):=by kernel_rfl
theorem ty3:tyI Tryz.prog 3=some (1,8,false):=by kernel_rfl
theorem u3:Tryz.prog.underlying 3=some (TypeDesc.int IntKind.i64):=by kernel_rfl
theorem z3:zbq Tryz.prog 3=true:=by kernel_rfl
theorem zc3:(Tryz.prog.info? 3).map (fun i=>(i.zero.map (·.cells.size)))=some (some 1):=by kernel_rfl
theorem ty4:tyI Tryz.prog 4=some (1,1,false):=by kernel_rfl
theorem u4:Tryz.prog.underlying 4=some TypeDesc.bool:=by kernel_rfl
theorem z4:zbq Tryz.prog 4=true:=by kernel_rfl
theorem ty5:tyI Tryz.prog 5=some (1,1,false):=by kernel_rfl
theorem u5:Tryz.prog.underlying 5=some (TypeDesc.int IntKind.u8):=by kernel_rfl
theorem z5:zbq Tryz.prog 5=true:=by kernel_rfl
theorem u6:Tryz.prog.underlying 6=some (TypeDesc.int IntKind.u8):=by kernel_rfl
theorem ty9:tyI Tryz.prog 9=some (1,16,false):=by kernel_rfl
theorem u9:Tryz.prog.underlying 9=some TypeDesc.string:=by kernel_rfl
theorem z9:zbq Tryz.prog 9=true:=by kernel_rfl
theorem zc9:(Tryz.prog.info? 9).map (fun i=>(i.zero.map (·.cells.size)))=some (some 1):=by kernel_rfl
theorem u10:Tryz.prog.underlying 10=some TypeDesc.string:=by kernel_rfl
theorem u11:Tryz.prog.underlying 11=some TypeDesc.string:=by kernel_rfl
theorem u12:Tryz.prog.underlying 12=some (TypeDesc.int IntKind.u64):=by kernel_rfl
theorem u21:Tryz.prog.underlying 21=some (TypeDesc.int IntKind.i32):=by kernel_rfl
theorem zb1:tyI Tryz.prog 22=some (1,24,false):=by kernel_rfl
theorem u22:Tryz.prog.underlying 22=some (TypeDesc.slice 9):=by kernel_rfl
theorem z22:zbq Tryz.prog 22=true:=by kernel_rfl
theorem zbv:tyI Tryz.prog 23=some (1,24,false):=by kernel_rfl
theorem u23:Tryz.prog.underlying 23=some (TypeDesc.slice 3):=by kernel_rfl
theorem z23:zbq Tryz.prog 23=true:=by kernel_rfl
theorem zqw:(Tryz.prog.info? 23).map (fun i=>(i.zero.map (·.cells.size)))=some (some 1):=by kernel_rfl
theorem zqQ:tyI Tryz.prog 24=some (1,24,false):=by kernel_rfl
theorem u24:Tryz.prog.underlying 24=some (TypeDesc.slice 95):=by kernel_rfl
theorem z24:zbq Tryz.prog 24=true:=by kernel_rfl
theorem z25:zbq Tryz.prog 25=true:=by kernel_rfl
theorem zqD:tyI Tryz.prog 26=some (5,120,true):=by kernel_rfl
theorem zqR:Tryz.prog.underlying 26=some (TypeDesc.struct (Array.mk [Field.mk "Globals" 22 0 false "" "" 0,Field.mk "Locks" 22 1 false "" "" 24,Field.mk "Procs" 22 2 false "" "" 48,Field.mk "Entry" 23 3 false "" "" 72,Field.mk "Ins" 24 4 false "" "" 96])):=by kernel_rfl
theorem zoF:zcY Tryz.prog 26 0=some 0:=by kernel_rfl
theorem zoG:zcY Tryz.prog 26 1=some 1:=by kernel_rfl
theorem zoH:zcY Tryz.prog 26 2=some 2:=by kernel_rfl
theorem zoI:zcY Tryz.prog 26 3=some 3:=by kernel_rfl
theorem zoJ:zcY Tryz.prog 26 4=some 4:=by kernel_rfl
theorem zdn:tyI Tryz.prog 30=some (1,24,false):=by kernel_rfl
theorem u30:Tryz.prog.underlying 30=some (TypeDesc.slice 111):=by kernel_rfl
theorem zdh:tyI Tryz.prog 32=some (5,120,true):=by kernel_rfl
theorem zqE:zcj Tryz.prog 32=some [.slice none 0 0,.slice none 0 0,.slice none 0 0,.slice none 0 0,.slice none 0 0]:=by kernel_rfl
theorem zc4:zcY Tryz.prog 32 0=some 0:=by kernel_rfl
theorem zb2:zcY Tryz.prog 32 1=some 1:=by kernel_rfl
theorem zbS:zcY Tryz.prog 32 2=some 2:=by kernel_rfl
theorem zaO:zcY Tryz.prog 32 3=some 3:=by kernel_rfl
theorem zaK:zcY Tryz.prog 32 4=some 4:=by kernel_rfl
theorem u39:Tryz.prog.underlying 39=some (TypeDesc.slice 23):=by kernel_rfl
theorem z39:zbq Tryz.prog 39=true:=by kernel_rfl
theorem z53:zbq Tryz.prog 53=true:=by kernel_rfl
theorem u62:Tryz.prog.underlying 62=some (TypeDesc.slice 106):=by kernel_rfl
theorem u72:Tryz.prog.underlying 72=some (TypeDesc.slice 104):=by kernel_rfl
theorem zqS:tyI Tryz.prog 91=some (1,24,false):=by kernel_rfl
theorem u91:Tryz.prog.underlying 91=some (TypeDesc.slice 93):=by kernel_rfl
theorem zoK:tyI Tryz.prog 93=some (4,56,true):=by kernel_rfl
theorem zq4:Tryz.prog.underlying 93=some (TypeDesc.struct (Array.mk [Field.mk "Kind" 3 0 false "" "" 0,Field.mk "Num" 3 1 false "" "" 8,Field.mk "Name" 9 2 false "" "" 16,Field.mk "Kids" 91 3 false "" "" 32])):=by kernel_rfl
theorem zqc:zcY Tryz.prog 93 0=some 0:=by kernel_rfl
theorem zqd:zcY Tryz.prog 93 1=some 1:=by kernel_rfl
theorem zoL:zcY Tryz.prog 93 2=some 2:=by kernel_rfl
theorem zoM:zcY Tryz.prog 93 3=some 3:=by kernel_rfl
theorem zpY:tyI Tryz.prog 95=some (7,80,true):=by kernel_rfl
theorem zq5:Tryz.prog.underlying 95=some (TypeDesc.struct (Array.mk [Field.mk "Op" 3 0 false "" "" 0,Field.mk "Arg" 3 1 false "" "" 8,Field.mk "Term" 93 2 false "" "" 16,Field.mk "To" 3 6 false "" "" 72])):=by kernel_rfl
theorem zqe:zcY Tryz.prog 95 0=some 0:=by kernel_rfl
theorem zqf:zcY Tryz.prog 95 1=some 1:=by kernel_rfl
theorem zoN:zcY Tryz.prog 95 2=some 2:=by kernel_rfl
theorem zqg:zcY Tryz.prog 95 3=some 6:=by kernel_rfl
theorem u99:Tryz.prog.underlying 99=some (TypeDesc.slice 101):=by kernel_rfl
theorem zck:tyI Tryz.prog 101=some (1,24,false):=by kernel_rfl
theorem zdi:Tryz.prog.underlying 101=some (TypeDesc.slice 4):=by kernel_rfl
theorem zq6:zbq Tryz.prog 101=true:=by kernel_rfl
theorem zqF:(Tryz.prog.info? 101).map (fun i=>(i.zero.map (·.cells.size)))=some (some 1):=by kernel_rfl
theorem zix:tyI Tryz.prog 104=some (3,24,true):=by kernel_rfl
theorem zqT:zbq Tryz.prog 104=true:=by kernel_rfl
theorem zqh:(Tryz.prog.info? 104).map (fun i=>(i.zero.map (·.cells.size)))=some (some 3):=by kernel_rfl
theorem zqG:zcj Tryz.prog 104=some [.int .i64 0,.int .i64 0,.int .i64 0]:=by kernel_rfl
theorem zhF:zcY Tryz.prog 104 0=some 0:=by kernel_rfl
theorem zhG:zcY Tryz.prog 104 1=some 1:=by kernel_rfl
theorem zl8:zcY Tryz.prog 104 2=some 2:=by kernel_rfl
theorem zcx:tyI Tryz.prog 106=some (2,16,true):=by kernel_rfl
theorem zqU:zbq Tryz.prog 106=true:=by kernel_rfl
theorem zqi:(Tryz.prog.info? 106).map (fun i=>(i.zero.map (·.cells.size)))=some (some 2):=by kernel_rfl
theorem znN:zcj Tryz.prog 106=some [.int .i64 0,.int .i64 0]:=by kernel_rfl
theorem zf6:zcY Tryz.prog 106 0=some 0:=by kernel_rfl
theorem zf7:zcY Tryz.prog 106 1=some 1:=by kernel_rfl
theorem zcn:tyI Tryz.prog 107=some (1,24,false):=by kernel_rfl
theorem zdI:Tryz.prog.underlying 107=some (TypeDesc.slice 109):=by kernel_rfl
theorem za3:tyI Tryz.prog 109=some (4,56,true):=by kernel_rfl
theorem zq7:zbq Tryz.prog 109=true:=by kernel_rfl
theorem zqH:Tryz.prog.underlying 109=some (TypeDesc.struct (Array.mk [Field.mk "Kind" 3 0 false "" "" 0,Field.mk "Num" 3 1 false "" "" 8,Field.mk "Name" 9 2 false "" "" 16,Field.mk "Kids" 107 3 false "" "" 32])):=by kernel_rfl
theorem zl9:zcj Tryz.prog 109=some [.int .i64 0,.int .i64 0,.string ByteArray.empty,.slice none 0 0]:=by kernel_rfl
theorem zcb:zcY Tryz.prog 109 0=some 0:=by kernel_rfl
theorem zbW:zcY Tryz.prog 109 1=some 1:=by kernel_rfl
theorem zbL:zcY Tryz.prog 109 2=some 2:=by kernel_rfl
theorem zaV:zcY Tryz.prog 109 3=some 3:=by kernel_rfl
theorem zaR:tyI Tryz.prog 111=some (7,80,true):=by kernel_rfl
theorem zq8:zbq Tryz.prog 111=true:=by kernel_rfl
theorem zfD:zcj Tryz.prog 111=some [.int .i64 0,.int .i64 0,.int .i64 0,.int .i64 0,.string ByteArray.empty,.slice none 0 0,.int .i64 0]:=by kernel_rfl
theorem zaL:zcY Tryz.prog 111 0=some 0:=by kernel_rfl
theorem zbi:zcY Tryz.prog 111 1=some 1:=by kernel_rfl
theorem zbM:zcY Tryz.prog 111 2=some 2:=by kernel_rfl
theorem zbN:zcY Tryz.prog 111 3=some 6:=by kernel_rfl
theorem zbO:zcY Tryz.prog 114 0=some 0:=by kernel_rfl
theorem zjM:zcY Tryz.prog 114 1=some 5:=by kernel_rfl
theorem zjN:zcY Tryz.prog 114 2=some 6:=by kernel_rfl
theorem zjO:zcY Tryz.prog 114 3=some 7:=by kernel_rfl
theorem zjP:zcY Tryz.prog 114 4=some 8:=by kernel_rfl
theorem zma:zcY Tryz.prog 114 5=some 9:=by kernel_rfl
theorem zmb:zcY Tryz.prog 114 6=some 10:=by kernel_rfl
theorem zpZ:Tryz.prog.underlying 118=some (TypeDesc.slice 120):=by kernel_rfl
theorem zjQ:tyI Tryz.prog 120=some (1,8,false):=by kernel_rfl
theorem zik:Tryz.prog.underlying 121=some (TypeDesc.int IntKind.u64):=by kernel_rfl
theorem zfj:zcY Tryz.prog 159 1=some 5:=by kernel_rfl
theorem zdx:zcY Tryz.prog 159 2=some 6:=by kernel_rfl
theorem zhH:zcY Tryz.prog 159 3=some 7:=by kernel_rfl
theorem zqV:Tryz.prog.underlying 170=some (TypeDesc.slice 5):=by kernel_rfl
end Go.Proofs.YtifonhplnmpgaaaGreat
namespace Go.Sh
open Rep (rep)
section
variable {w:World} {b o:Nat}
end
structure DRace where
 g:Int
 a:Int
 b:Int
theorem DRace.ext_iff {x y:DRace}:x=y↔(x.g=y.g∧x.a=y.a∧x.b=y.b):=⟨fun h=>by rw [h];exact ⟨rfl,rfl,rfl⟩,fun h=>by obtain ⟨h0,h1,h2⟩:=h;cases x;cases y;simp only at h0 h1 h2;simp only [h0,h1,h2]⟩
instance:DecidableEq DRace:=fun x y=>decidable_of_iff (x.g=y.g∧x.a=y.a∧x.b=y.b) DRace.ext_iff.symm
instance:Rep DRace:=Rep.via fun x=>(x.g,x.a,x.b)
instance:RepZ DRace:=⟨⟨(RepZ.zv:Int),(RepZ.zv:Int),(RepZ.zv:Int)⟩,RepZ.zc (Int×Int×Int),fun w=>RepZ.zr (α:=Int×Int×Int) w⟩
instance:Flat DRace:=⟨fun h=>Flat.flat (α:=Int×Int×Int) h⟩
structure DState where
 vars:List Int
 owner:List Int
 stacks:List (List Int)
theorem DState.ext_iff {x y:DState}:x=y↔(x.vars=y.vars∧x.owner=y.owner∧x.stacks=y.stacks):=⟨fun h=>by rw [h];exact ⟨rfl,rfl,rfl⟩,fun h=>by obtain ⟨h0,h1,h2⟩:=h;cases x;cases y;simp only at h0 h1 h2;simp only [h0,h1,h2]⟩
instance:DecidableEq DState:=fun x y=>decidable_of_iff (x.vars=y.vars∧x.owner=y.owner∧x.stacks=y.stacks) DState.ext_iff.symm
instance:Rep DState:=Rep.via fun x=>(x.vars,x.owner,x.stacks)
instance:RepZ DState:=⟨⟨(RepZ.zv:List Int),(RepZ.zv:List Int),(RepZ.zv:List (List Int))⟩,RepZ.zc ((List Int)×(List Int)×(List (List Int))),fun w=>RepZ.zr (α:=(List Int)×(List Int)×(List (List Int))) w⟩
section
variable {w:World} {b o:Nat}
end
end Go.Sh
namespace Go.Proofs.YtifonhplnmpgaaaGreat
open Go Go.Sh Go.Proofs
open Rep (rep)
theorem zhI {P:Program} {w:World} {K:Value→Prop} {t:TypeId} {x y:Operand} {a b:Bool} (ht:P.underlying t=some .bool) (k:K (.bool (decide (a≠b)))):RD P (bin .neq t x y (.bool a) (.bool b)) w K:=
 zaQ (fun w' _=>by
   have:=run_neq_bool (P:=P) w' t a b ht
   cases a<;>cases b<;>simp_all [bin,eqGuard]) k
def sm {α:Type} (f:α→Nat) (l:List α):Nat:=(l.map f).sum
theorem zf8 {α:Type} (f:α→Nat) {l:List α} {k:Nat} (h:k<l.length):sm f (l.take (k+1))=sm f (l.take k)+f l[k]:=by
 unfold sm
 rw [List.take_succ_eq_append_getElem h,List.map_append,List.sum_append]
 simp
theorem zoO {α:Type} (f:α→Nat) {l:List α} {x:α} (h:x∈l):f x≤sm f l:=by
 unfold sm
 induction l with
 | nil=>cases h
 | cons y l ih=>
   rw [List.map_cons,List.sum_cons]
   rcases List.mem_cons.1 h with rfl | h
   · omega
   have:=ih h;omega
theorem zea {w w1 w2:World} {v1 v2:Value} {l1 l2:List Int} (h1:Is w1 v1 l1) (hx1:Ext w1 w) (h2:Is w2 v2 l2) (hx2:Ext w2 w) :
   CALL Tryz.prog 11 [v1,v2] w fun r w'=>Ext w w'∧r=.bool (decide (l1=l2)):=zl7 h1 h2 hx1 hx2
def F33 (a0 a1:Value) (w:World) (R:VW):Prop:=
 rN 23 3 a0 w fun x7=>
 rB .sub 3 T0 T0 a1 x7 w fun x8=>
 rB .lss 3 T0 U0 x8 (iV 0) w fun x10=>
 BR x10
 (R (iV (-1)) w)
 (R x8 w)
def cfg33:Cfg:=⟨extL,[],[],[],[],[],[]⟩
theorem F33_call {a0 a1:Value} {w:World} {R:VW} (h:F33 a0 a1 w R):cL 33 [a0,a1] w R:=co (g:=cfg33) Tryz.func33 (by kernel_rfl) (by kernel_rfl) (by kernel_rfl) h
theorem zmc {w:World} {v0:Value} {W0:World} {l:(List Int)} {left:Int}  (h0:Is W0 v0 l) (e0:Ext W0 w) (hl0:-1≤left) (hl1:left≤1048576) :
   CALL Tryz.prog 33 [v0,.int .i64 left] w fun r w'=>Ext w w'∧(∃ n:Int,r=.int .i64 n∧-1≤n∧n≤left∧(0≤n→n+l.length≤left)):=by
 refine F33_call ?_
 unfold F33
 have hl:=zai h0
 have hln7:=zai h0
 refine zae u23 h0 ?_
 refine za9 (by unfold I64;omega) ?_
 refine zah ?_
 refine br (fun c1=>?_) (fun c1=>?_)
 · refine ⟨Ext.refl w,?_⟩
   exact ⟨-1,rfl,by omega,by omega,by omega⟩
 refine ⟨Ext.refl w,?_⟩
 exact ⟨_,rfl,by omega,by omega,by omega⟩
def F125 (a0 a1 a2:Value) (w:World) (R:VW):Prop:=
 rB .geq 3 T0 T0 a0 a1 w fun x9=>
 BR x9
 (rB .leq 3 T0 T0 a0 a2 w fun x13=>
 R x13 w)
 (R (Value.bool false) w)
def cfg125:Cfg:=⟨extL,[],[],[],[],[],[]⟩
theorem F125_call {a0 a1 a2:Value} {w:World} {R:VW} (h:F125 a0 a1 a2 w R):cL 125 [a0,a1,a2] w R:=co (g:=cfg125) Tryz.func125 (by kernel_rfl) (by kernel_rfl) (by kernel_rfl) h
theorem l01In_ok {w:World} {a:Int} {b:Int} {c:Int}    :
   CALL Tryz.prog 125 [.int .i64 a,.int .i64 b,.int .i64 c] w fun r w'=>Ext w w'∧(r=.bool (decide (b≤a∧a≤c))):=by
 refine F125_call ?_
 unfold F125
 refine zbY ?_
 refine br (fun c1=>?_) (fun c1=>?_)
 · refine zdM ?_
   refine ⟨Ext.refl w,?_⟩
   simp [c1]
 refine ⟨Ext.refl w,?_⟩
 simp [c1]
def zqW (s:DState) (t:Int):Int:=if h:0≤t∧t.toNat<s.stacks.length then (s.stacks[t.toNat]'h.2).getLastD (-1) else -1
structure DArc where
 fr:Int
 to:Int
theorem DArc.ext_iff {x y:DArc}:x=y↔(x.fr=y.fr∧x.to=y.to):=⟨fun h=>by rw [h];exact ⟨rfl,rfl⟩,fun h=>by obtain ⟨h0,h1⟩:=h;cases x;cases y;simp only at h0 h1;simp only [h0,h1]⟩
instance:DecidableEq DArc:=fun x y=>decidable_of_iff (x.fr=y.fr∧x.to=y.to) DArc.ext_iff.symm
instance:Rep DArc:=Rep.via fun x=>(x.fr,x.to)
theorem zdQ {w:World} {b o:Nat} {x:DArc} (h:At w b o x):At w b (o+0) x.fr:=zdl (α:=Int) (β:=Int) (p:=(x.fr,x.to)) h
theorem zdR {w:World} {b o:Nat} {x:DArc} (h:At w b o x):At w b (o+1) x.to:=zbH (α:=Int) (β:=Int) (p:=(x.fr,x.to)) h
instance:RepZ DArc:=⟨⟨(RepZ.zv:Int),(RepZ.zv:Int)⟩,RepZ.zc (Int×Int),fun w=>RepZ.zr (α:=Int×Int) w⟩
instance:Flat DArc:=⟨fun h=>Flat.flat (α:=Int×Int) h⟩
noncomputable def nxA (n:Nat) (A:List DArc) (i:Nat):List Nat:=zbw n fun j=>i<n∧(⟨i,j⟩:DArc)∈A
theorem zoP {n:Nat} {A:List DArc}:∀ i j,j∈nxA n A i→i<n∧j<n:=fun i j h=>by
 obtain ⟨h1,h2⟩:=za1.1 h
 exact ⟨h2.1,h1⟩
def zkD (nx:Nat→List Nat) (p:List Nat):Prop:=∃ x∈p,RP nx x x
end Go.Proofs.YtifonhplnmpgaaaGreat
namespace Go.Sh
open Go.RowKit (Below)
open Rep (rep)
theorem zkE (off:Nat):∀ (l:List Value) (k:Nat) (cs:Array Value),
   ((l.zipIdx k).foldl (fun (cs:Array Value) (p:Value×Nat)=>cs.setIfInBounds (off+p.2) p.1) cs).size=cs.size ∧
   ∀ i,((l.zipIdx k).foldl (fun (cs:Array Value) (p:Value×Nat)=>cs.setIfInBounds (off+p.2) p.1) cs)[i]?=if off+k≤i∧i<off+k+l.length∧i<cs.size then l[i-(off+k)]? else cs[i]?
 | [],k,cs=>by
   refine ⟨rfl,fun i=>?_⟩
   rw [if_neg (by simp;omega)]
   rfl
 | v :: l,k,cs=>by
   obtain ⟨h1,h2⟩:=zkE off l (k+1) (cs.setIfInBounds (off+k) v)
   simp only [List.zipIdx_cons,List.foldl_cons]
   refine ⟨by rw [h1];simp,fun i=>?_⟩
   rw [h2]
   simp only [Array.size_setIfInBounds,List.length_cons]
   by_cases hi:i=off+k
   · subst hi
     rw [if_neg (by omega)]
     by_cases hs:off+k<cs.size
     · rw [if_pos (by omega)];simp [hs]
     rw [if_neg (by omega),Array.getElem?_eq_none (by rw [Array.size_setIfInBounds];omega),Array.getElem?_eq_none (by omega)]
   by_cases hr:off+(k+1)≤i∧i<off+(k+1)+l.length∧i<cs.size
   · rw [if_pos hr,if_pos (by omega)]
     have:i-(off+k)=(i-(off+(k+1)))+1:=by omega
     rw [this,List.getElem?_cons_succ]
   rw [if_neg hr,if_neg (by omega),Array.getElem?_setIfInBounds_ne (by omega)]
theorem zkF (v:Value) (cells:Array Value) (s:Nat) (hv:v.cells.size=s) (hc:cells.size=s):Instr.fill (fun i=>some (i*s,s)) cells [(0,v)]=some v.cells:=by
 unfold Instr.fill
 simp only [Nat.zero_mul]
 rw [if_neg (by simp;omega)]
 unfold Instr.fill
 congr 1
 obtain ⟨h1,h2⟩:=zkE 0 v.cells.toList 0 cells
 have e:v.cells.zipIdx.foldl (fun (cs:Array Value) (x:Value×Nat)=>match x with | (c,j)=>cs.setIfInBounds (0+j) c) cells
     = (v.cells.toList.zipIdx 0).foldl (fun (cs:Array Value) (p:Value×Nat)=>cs.setIfInBounds (0+p.2) p.1) cells:=by
   rw [←Array.foldl_toList,Array.toList_zipIdx]
 rw [e]
 apply Array.ext_getElem?
 intro i
 rw [h2]
 by_cases hi:i<s
 · rw [if_pos (by simp;omega)];simp
 rw [if_neg (by simp;omega),Array.getElem?_eq_none (by omega),Array.getElem?_eq_none (by omega)]
section
variable {w w' w'':World} {lo hi a b:Nat}
end
def RowI {α:Type} [Rep α] (lo hi:Nat) (e:TypeId) (w:World) (v:Value) (l:List α):Prop:=(∃ a,v=.slice a 0 0∧l=[])∨∃ F,RowF F e w v l∧F.Nodup∧∀ b∈F,lo≤b∧b<hi
section
variable {P:Program} {w w0 w':World} {α:Type} [Rep α] {lo hi a b e:Nat} {v:Value} {l:List α}
theorem ziy (a:Option Addr):OwnI (α:=List α) lo hi w (.slice a 0 0) []:=
 ⟨[],⟨⟨_,⟨a,0,[],[],rfl,Nat.le_refl _,Nat.zero_le _,⟨rfl,rfl⟩,.inl ⟨rfl,rfl⟩⟩,rfl⟩,List.nodup_nil,Wr.nil w⟩,by simp⟩
theorem RowI.ext (h:RowI lo hi e w v l) (hx:Ext w w'):RowI lo hi e w' v l:=by
 rcases h with h | ⟨F,h1,h2,h3⟩
 · exact .inl h
 exact .inr ⟨F,h1.ext hx,h2,h3⟩
theorem RowI.chg (h:RowI lo hi e w v l) (hc:ChgI a b w w') (hd:hi≤a∨b≤lo):RowI lo hi e w' v l:=by
 rcases h with h | ⟨F,h1,h2,h3⟩
 · exact .inl h
 exact .inr ⟨F,h1.keep fun c hcm=>hc.block c (h1.lt c hcm) (by have:=h3 c hcm;omega),h2,h3⟩
theorem RowI.own (h:RowI lo hi e w v l):OwnI lo hi w v l:=by
 rcases h with ⟨a,rfl,rfl⟩ | ⟨F,h1,h2,h3⟩
 · exact ziy a
 exact ⟨F,⟨h1.own,h2,h1.wr⟩,h3⟩
theorem RowI.is (h:RowI lo hi e w v l):Is w v l:=h.own.is
theorem RowI.mono {lo' hi':Nat} (h:RowI lo hi e w v l) (h1:lo'≤lo) (h2:hi≤hi'):RowI lo' hi' e w v l:=by
 rcases h with h | ⟨F,h1,h2,h3⟩
 · exact .inl h
 exact .inr ⟨F,h1,h2,fun b hb=>by have:=h3 b hb;omega⟩
theorem zcc (lo hi e:Nat) (w:World) (a:Option Addr):RowI (α:=α) lo hi e w (.slice a 0 0) []:=.inl ⟨a,rfl,rfl⟩
theorem zdy (lo hi e:Nat) (w:World):RowI (α:=α) lo hi e w (.slice none 0 0) []:=.inl ⟨none,rfl,rfl⟩
theorem zf9 (e:Nat) (w:World):RowF (α:=α) [] e w (.slice none 0 0) []:=⟨[],[],⟨by simp,.inl ⟨rfl,rfl⟩⟩,⟨rfl,rfl⟩,rfl,Wr.nil _⟩
theorem zhJ {m1 m2:Sem Value} {K:Value→World→Prop} (h:m1.run P w=m2.run P w) (k:OP P m2 w K):OP P m1 w K:=by
 obtain ⟨v,w',hr,hk⟩:=k;exact ⟨v,w',h.trans hr,hk⟩
theorem zex {t ty:TypeId} {by_ n c:Nat} {x:Addr} {b o:Nat} {xs:List Value} (ht:P.underlying t=some (.slice e)) (he:tyI P e=some (Rep.size α,by_,Rep.agg α)) (hzc:(P.info? e).map (fun i=>(i.zero.map (·.cells.size)))=some (some (Rep.size α)))
   (hl:xs.length=n*Rep.size α) (hr:w.rangeAt b o xs) (h0:0<n) (hm:n≤maxLen) (hb:n*by_≤140737488355328) :
   (Builtin.append_ #[t,t] ty #[.slice (some x) 0 0,.slice (some ⟨b,o,none⟩) n c]).run P w=(Builtin.append_ #[t,t] ty #[.slice none 0 0,.slice (some ⟨b,o,none⟩) n c]).run P w:=by
 obtain ⟨i,d,hi,hd,hs,hby,hg⟩:=zca he
 simp only [hi,Option.map_some,Option.some.injEq] at hzc
 obtain ⟨z,hz,hzs⟩:=Option.map_eq_some_iff.1 hzc
 rw [zam] at hm
 have h1:=run_append_nil (P:=P) w t ty e i z ht hi hz ⟨b,o,none⟩ n c xs (by rw [hs];exact hl) (fun j u hu=>by rw [Addr.add_mid];exact hr j u hu) h0 (by omega) (by rw [hby];omega)
 have h2:=run_append_grow (P:=P) w t ty e i z ht hi hz x 0 0 [] (by simp) (by simp) ⟨b,o,none⟩ n c xs (by rw [hs];exact hl) (fun j u hu=>by rw [Addr.add_mid];exact hr j u hu) (by omega) (by omega) (growslice_fits (by omega) (by rw [hby];simpa using hb))
 rw [h1,h2]
 simp
theorem zeW {t:TypeId} {by_:Nat} {u:Value} {x:α} {K:Value→World→Prop} (ht:P.underlying t=some (.slice e)) (he:tyI P e=some (Rep.size α,by_,Rep.agg α)) (hz:zbq P e=true) (hsz:Rep.size α≤1000)
   {F:List Nat} (hx:Mine F w u x)
   (k:∀ w',Ext w w'→Mine (w.heap.size :: F) w' (.slice (some ⟨w.heap.size,0,none⟩) 1 1) [x]→K (.slice (some ⟨w.heap.size,0,none⟩) 1 1) w'):OP P (Instr.buildSlice t 1 #[(0,u)]) w K:=by
 obtain ⟨⟨cs,hr,rfl⟩,hn,hw⟩:=hx
 have hcl:=zdO hr
 have hlen:=Rep.len hr
 have hvs:(mkv α cs).cells.size=Rep.size α:=by rw [←Array.length_toList,hcl,hlen]
 obtain ⟨i,d,hi,hd,hs,hby,hg⟩:=zca he
 unfold zbq at hz
 rw [hi] at hz
 obtain ⟨z,hz⟩:=Option.isSome_iff_exists.1 hz
 have hpos:=Rep.pos (α:=α)
 refine ⟨_,w.alloc (.cells (mkv α cs).cells e),?_,k _ (zay w _) ?_⟩
 · have hne:¬Rep.size α=0:=by omega
   have h24:¬2^24<Rep.size α:=by omega
   simp only [Instr.buildSlice,Sem.run_bind,run_underlying ht,Result.andThen_ok,zaN he,Nat.one_mul]
   simp [h24,hne,zeroValue,typeInfo,hi,hz,zkF _ _ _ hvs,newRow]
 have hx:=zay w (.cells (mkv α cs).cells e)
 have hB:(w.alloc (.cells (mkv α cs).cells e)).heap[w.heap.size]?=some (.cells (mkv α cs).cells e (0,0)):=heap_alloc_new w _
 have hFlt:=Rep.lt hr
 refine ⟨⟨_,⟨_,1,F,cs,rfl,Nat.le_refl _,by rw [zam];omega,Cells.single (zbC hr hx),.inr ⟨w.heap.size,0,rfl,rfl,?_,?_⟩⟩,rfl⟩,?_,?_⟩
 · intro j y hy
   simp only [World.cell?,hB]
   rw [←hcl] at hy
   simpa using hy
 · exact (Array.getElem?_eq_some_iff.1 hB).1
 · exact List.nodup_cons.2 ⟨fun h=>by have:=hFlt _ h;omega,hn⟩
 intro c hc
 rcases List.mem_cons.1 hc with rfl | hc
 · exact ⟨_,_,hB⟩
 exact hw.ext hx c hc
theorem zlg {t:TypeId} {by_:Nat} {u:Value} {x:α} {K:Value→World→Prop} (ht:P.underlying t=some (.slice e)) (he:tyI P e=some (Rep.size α,by_,Rep.agg α)) (hz:zbq P e=true) (hsz:Rep.size α≤1000)
   (hx:OwnI lo hi w u x) (hlo:lo≤w.heap.size)
   (k:∀ v w',Ext w w'→OwnI lo w'.heap.size w' v [x]→K v w'):OP P (Instr.buildSlice t 1 #[(0,u)]) w K:=by
 obtain ⟨F,hm,hF⟩:=hx
 refine zeW ht he hz hsz hm fun w' hxx hm'=>k _ w' hxx ⟨_,hm',fun b hb=>⟨?_,hm'.lt b hb⟩⟩
 rcases List.mem_cons.1 hb with rfl | hb
 · exact hlo
 exact (hF b hb).1
theorem zbA {t:TypeId} {by_:Nat} {K:Value→World→Prop} (ht:P.underlying t=some (.slice e)) (he:tyI P e=some (Rep.size α,by_,Rep.agg α))
   (k:∀ a w',Ext w w'→RowI (α:=α) w'.heap.size w'.heap.size e w' (.slice (some a) 0 0) []→K (.slice (some a) 0 0) w'):OP P (Instr.buildSlice t 0 #[]) w K:=
 zf0 (α:=α) ht he fun a w' hx hr=>k _ w' hx (zcc _ _ _ _ _)
theorem znO {t ty:TypeId} {by_:Nat} {u:Value} {x:α} {lo2 hi2:Nat} {K C:Value→World→Prop} (ht:P.underlying t=some (.slice e)) (he:tyI P e=some (Rep.size α,by_,Rep.agg α)) (hz:zbq P e=true)
   (hzc:(P.info? e).map (fun i=>(i.zero.map (·.cells.size)))=some (some (Rep.size α))) (hsz:Rep.size α≤1000) (hv:RowI lo hi e w v l) (hlo:lo≤w.heap.size) (hx:OwnI lo2 hi2 w u x) (hl:hi≤lo2) (hl2:lo≤lo2) (hm:l.length+1≤maxLen) (hb:(l.length+1)*by_≤140737488355328)
   (k:∀ v' w',ChgI lo hi w w'→RowI lo w'.heap.size e w' v' (l++[x])→K v' w')
   (hC:∀ s w1,Ext w w1→OP P (Builtin.append_ #[t,t] ty [v,s].toArray) w1 K→C s w1):OP P (Instr.buildSlice t 1 #[(0,u)]) w C:=by
 obtain ⟨G,hmx,hG⟩:=hx
 refine zeW ht he hz hsz hmx fun w1 hx1 hm1=>?_
 obtain ⟨⟨cs,⟨a,cap,Fi,xs,rfl,h1,h2,hc,h4⟩,hveq⟩,hn1,hw1⟩:=hm1
 simp only [mkv,Rep.agg,cond_false,List.headD_cons,Value.slice.injEq,List.length_cons,List.length_nil] at hveq
 obtain ⟨rfl,_,rfl⟩:=hveq
 rcases h4 with ⟨h4,_⟩ | ⟨b,o,hab,hFe,hra,hbl⟩
 · simp at h4
 simp only [List.cons.injEq] at hFe
 obtain ⟨_,rfl⟩:=hFe
 have key:∀ (v:Value) (F:List Nat),RowF F e w v l→F.Nodup→(∀ b∈F,lo≤b∧b<hi)→OP P (Builtin.append_ #[t,t] ty [v,.slice (some ⟨w.heap.size,0,none⟩) 1 1].toArray) w1 K:=by
   intro v F hF hFn hFl
   have hF1:=hF.ext hx1
   have hd:(G++F).Nodup:=by
     rw [List.nodup_append]
     refine ⟨hmx.nodup,hFn,fun p hp q hq e=>?_⟩
     subst e
     have:=hG p hp
     have:=hFl p hq
     omega
   refine zeR (m:=[x]) ht he hzc hF1 hFn rfl hc (.inr ⟨b,o,hab,hra⟩) (hw1.sub (by simp +contextual)) hd (by simpa using hm) (by simpa using hb) fun v' w' F' hch hfull hr' hn' hs'=>?_
   have hown:∀ c∈v.ownBlock.toList,lo≤c∧c<hi:=fun c hc=>by
     obtain ⟨xs,Fi,_,_,rfl,_⟩:=hF
     exact hFl c (by simp only [List.mem_append];exact .inl hc)
   refine k v' w' ((Ext.toI hx1).trans (hch.toI hown)) (.inr ⟨F',hr',hn',fun c hc=>⟨?_,hr'.lt c hc⟩⟩)
   rcases hs' c hc with h | h | h
   · exact (hFl c h).1
   · have:=hG c h;omega
   have:=hx1.size;omega
 refine hC _ w1 hx1 ?_
 rcases hv with ⟨a0,rfl,rfl⟩ | ⟨F,hF,hFn,hFl⟩
 · have kn:=key (.slice none 0 0) [] (zf9 e w) List.nodup_nil (by simp)
   cases a0 with
   | none=>exact kn
   | some x0=>
     simp only [Option.some.injEq,Addr.mk.injEq] at hab
     obtain ⟨rfl,rfl,_⟩:=hab
     exact zhJ (zex (α:=α) (n:=1) ht he hzc (by simpa using Cells.len hc) hra (by omega) (by rw [zam];omega) (by simpa using hb)) kn
 exact key v F hF hFn hFl
theorem zcP {t ty:TypeId} {by_:Nat} {u:Value} {x:α} {lo2 hi2:Nat} {K:Value→World→Prop} (ht:P.underlying t=some (.slice e)) (he:tyI P e=some (Rep.size α,by_,Rep.agg α)) (hz:zbq P e=true)
   (hzc:(P.info? e).map (fun i=>(i.zero.map (·.cells.size)))=some (some (Rep.size α))) (hsz:Rep.size α≤1000) (hv:RowI lo hi e w v l) (hlo:lo≤w.heap.size) (hx:OwnI lo2 hi2 w u x) (hl:hi≤lo2) (hl2:lo≤lo2) (hm:l.length+1≤maxLen) (hb:(l.length+1)*by_≤140737488355328)
   (k:∀ v' w',ChgI lo hi w w'→RowI lo w'.heap.size e w' v' (l++[x])→K v' w'):OP P (Instr.buildSlice t 1 #[(0,u)]) w fun s w1=>OP P (Builtin.append_ #[t,t] ty [v,s].toArray) w1 K:=
 znO ht he hz hzc hsz hv hlo hx hl hl2 hm hb k fun _ _ _ h=>h
theorem zfk [Flat α] {t ty:TypeId} {by_:Nat} {src:Value} {m:List α} {K:Value→World→Prop} (ht:P.underlying t=some (.slice e)) (he:tyI P e=some (Rep.size α,by_,Rep.agg α))
   (hzc:(P.info? e).map (fun i=>(i.zero.map (·.cells.size)))=some (some (Rep.size α))) (hv:RowI lo hi e w v l) (hlo:lo≤w.heap.size) (hs:Is w0 src m) (hx:Ext w0 w) (hm:l.length+m.length≤maxLen) (hb:(l.length+m.length)*by_≤140737488355328)
   (k:∀ v' w',ChgI lo hi w w'→RowI lo w'.heap.size e w' v' (l++m)→K v' w'):OP P (Builtin.append_ #[t,t] ty [v,src].toArray) w K:=by
 obtain ⟨a,cap,Fi,xs,rfl,h1,h2,hc,h4⟩:=zdd (hs.ext hx)
 have hFi:=Cells.flat (xs:=xs) hc
 subst hFi
 have key:∀ (v:Value) (F:List Nat),RowF F e w v l→F.Nodup→(∀ b∈F,lo≤b∧b<hi)→OP P (Builtin.append_ #[t,t] ty [v,.slice a m.length cap].toArray) w K:=by
   intro v F hF hFn hFl
   refine zeR (m:=m) ht he hzc hF hFn rfl hc (by rcases h4 with h | ⟨b,o,ha,hr,_⟩;exact .inl h;exact .inr ⟨b,o,ha,hr⟩) (Wr.nil _) (by simpa using hFn) hm hb fun v' w' F' hch hfull hr' hn' hs'=>?_
   have hown:∀ c∈v.ownBlock.toList,lo≤c∧c<hi:=fun c hc=>by
     obtain ⟨xs,Fi,_,_,rfl,_⟩:=hF
     exact hFl c (by simp only [List.mem_append];exact .inl hc)
   refine k v' w' (hch.toI hown) (.inr ⟨F',hr',hn',fun c hc=>⟨?_,hr'.lt c hc⟩⟩)
   rcases hs' c hc with h | h | h
   · exact (hFl c h).1
   · simp at h
   omega
 rcases hv with ⟨a0,rfl,rfl⟩ | ⟨F,hF,hFn,hFl⟩
 · have kn:=key (.slice none 0 0) [] (zf9 e w) List.nodup_nil (by simp)
   cases a0 with
   | none=>exact kn
   | some x0=>
     by_cases hm0:m=[]
     · subst hm0
       refine ⟨.slice (some x0) 0 0,w,?_,k _ w (ChgI.refl w) (zcc _ _ _ _ _)⟩
       have hf:(Builtin.firstCells (Rep.size α) 0 (.slice a 0 cap)).run P w=.ok #[] w:=by
         cases a with
         | none=>rfl
         | some a=>simp [Builtin.firstCells,loadCells,loadCellsFrom]
       simp [Builtin.append_,run_underlying ht,zaN he,Builtin.lenOf,hf,storeCells]
     rcases h4 with h | ⟨b,o,rfl,hr,_⟩
     · exact absurd h hm0
     exact zhJ (zex (α:=α) ht he hzc (Cells.len hc) hr (List.length_pos_iff.2 hm0) (by simpa using hm) (by simpa using hb)) kn
 exact key v F hF hFn hFl
theorem zmd {a:Option Addr} {cap:Nat} {l:List α} (h:Is w (.slice a l.length cap) l) (k:Nat) (hk:k≤l.length):Is w (.slice a k cap) (l.take k):=by
 obtain ⟨F,cs,⟨a',cap',Fi,xs,rfl,h1,h2,hc,h4⟩,hv⟩:=h
 simp only [mkv,Rep.agg,cond_false,List.headD_cons,Value.slice.injEq] at hv
 obtain ⟨rfl,_,rfl⟩:=hv
 have e:l=l.take k++l.drop k:=by simp
 have hlen:(l.take k).length=k:=by simp;omega
 rw [e] at hc
 obtain ⟨F1,F2,x1,x2,rfl,rfl,c1,c2⟩:=Cells.split hc
 by_cases hd:l.take k=[]
 · refine ⟨[],_,⟨a,cap,F1,x1,rfl,by rw [hlen];omega,h2,c1,.inl ⟨hd,rfl⟩⟩,?_⟩
   rw [hlen];rfl
 rcases h4 with ⟨rfl,_⟩ | ⟨b,o,rfl,rfl,hr,hb⟩
 · simp at hd
 refine ⟨_,_,⟨some ⟨b,o,none⟩,cap,F1,x1,rfl,by rw [hlen];omega,h2,c1,.inr ⟨b,o,rfl,rfl,(zaE hr).1,hb⟩⟩,?_⟩
 rw [hlen];rfl
theorem zjR {t:TypeId} {by_:Nat} {v:Value} {l:List α} {i:Int} {K:Value→Prop} (ht:P.underlying t=some (.slice e)) (he:tyI P e=some (Rep.size α,by_,Rep.agg α)) (h:Is w0 v l) (h0:0≤i) (h1:i.toNat≤l.length)
   (k:∀ v',Is w0 v' (l.take i.toNat)→K v'):RD P (Instr.sliceAt t v none (some (.int .i64 i)) none) w K:=by
 obtain ⟨a,cap,Fi,xs,rfl,hc1,hcm,_,h4⟩:=zdd h
 have hb:∀ w',(Instr.sliceBounds true l.length cap none (some (.int .i64 i)) none).run P w'=.ok (0,i.toNat,cap) w':=fun w'=>by
   have:i≤(cap:Int):=by omega
   simp [Instr.sliceBounds,Instr.sliceBound,asIntOf,h0,this]
 refine zaQ (v:=.slice a i.toNat cap) (fun w' _=>?_) (k _ (zmd h i.toNat h1))
 have hz:(if cap=0 then a else a.map (fun x=>x.add (0*Rep.size α)))=a:=by
   split
   · rfl
   cases a<;>simp [Addr.add_mid,Addr.add]
 simp only [Instr.sliceAt,Instr.slice,Sem.run_bind,run_underlying ht,Result.andThen_ok,hb,zaN he]
 simp
 exact fun _=>by cases a<;>simp [Addr.add_mid,Addr.add]
theorem zhK {t:TypeId} {by_:Nat} {v:Value} {l:List α} {i j:Int} {K:Value→Prop} (ht:P.underlying t=some (.slice e)) (he:tyI P e=some (Rep.size α,by_,Rep.agg α)) (h:Is w0 v l) (h0:0≤i) (h1:i≤j) (h2:j.toNat≤l.length)
   (k:∀ v',Is w0 v' ((l.take j.toNat).drop i.toNat)→K v'):RD P (Instr.sliceAt t v (some (.int .i64 i)) (some (.int .i64 j)) none) w K:=by
 obtain ⟨a,cap,Fi,xs,rfl,hc1,hcm,_,h4⟩:=zdd h
 have hb:∀ w',(Instr.sliceBounds true l.length cap (some (.int .i64 i)) (some (.int .i64 j)) none).run P w'=.ok (i.toNat,j.toNat,cap) w':=fun w'=>by
   have h3:j≤(cap:Int):=by omega
   have h5:0≤j:=by omega
   simp [Instr.sliceBounds,Instr.sliceBound,asIntOf,h0,h1,h3,h5]
   intro h6
   omega
 have hl:(l.take j.toNat).length=j.toNat:=by rw [List.length_take];omega
 have ht1:Is w0 (.slice a (l.take j.toNat).length cap) (l.take j.toNat):=by rw [hl];exact zmd h j.toNat h2
 have hd:=zl0 ht1 i.toNat (by omega) (Rep.size α) rfl
 rw [hl] at hd
 refine zaQ (fun w' _=>?_) (k _ hd)
 simp only [Instr.sliceAt,Instr.slice,Sem.run_bind,run_underlying ht,Result.andThen_ok,hb,zaN he]
 simp
def AtB {α:Type} [Rep α] (W w:World) (b o:Nat) (x:α):Prop:=∃ F cs,rep F W cs x∧w.rangeAt b o cs
theorem AtB.keep {W w':World} {b o:Nat} {x:α} (h:AtB W w b o x) (hb:w'.heap[b]?=w.heap[b]?):AtB W w' b o x:=by
 obtain ⟨F,cs,hr,ha⟩:=h;exact ⟨F,cs,hr,zbX ha hb⟩
theorem AtB.ext {W:World} {b o:Nat} {x:α} (h:AtB W w b o x) (hx:Ext w w'):AtB W w' b o x:=by
 obtain ⟨F,cs,hr,ha⟩:=h;exact ⟨F,cs,hr,zbo ha hx⟩
theorem AtB.at {W:World} {b o:Nat} {x:α} (h:AtB W w b o x) (hx:Ext W w):At w b o x:=by
 obtain ⟨F,cs,hr,ha⟩:=h;exact ⟨F,cs,zbC hr hx,ha⟩
theorem AtB.snd {β:Type} [Rep β] {W:World} {b o:Nat} {p:α×β} (h:AtB W w b o p):AtB W w b (o+Rep.size α) p.2:=by
 obtain ⟨F,cs,⟨F1,F2,c1,c2,rfl,rfl,h1,h2⟩,hr⟩:=h
 have:=(zaE hr).2
 rw [Rep.len h1] at this
 exact ⟨F2,c2,h2,this⟩
theorem ziz {W:World} {t by_ b o:Nat} {x:α} {K:Value→Prop} (ht:tyI P t=some (Rep.size α,by_,Rep.agg α)) (h:AtB W w0 b o x) (hW:Ext W w0) (hx:Ext w0 w) (k:∀ v,Is W v x→K v) :
   RD P (Instr.loadAt t (.pointer (some ⟨b,o,none⟩))) w K:=by
 obtain ⟨F,cs,hr,hc⟩:=h
 exact zaQ (fun w' hx'=>zcK ht (zbC hr (hW.trans (hx.trans hx'))) (zbo hc (hx.trans hx'))) (k _ ⟨F,cs,hr,rfl⟩)
theorem zey {W w1:World} {g:Nat} {x:α} {t:TypeId} (h:Is W v x) (hV:Var P t w1 g v) (ha:Rep.agg α=true):AtB W w1 g 0 x:=by
 obtain ⟨F,cs,hr,rfl⟩:=h
 obtain ⟨e,cs',_,hB,hv,_⟩:=hV
 have:cs'=cs:=by
   simp only [mkv,ha,cond_true,Value.agg.injEq] at hv
   have:=congrArg Array.toList hv
   simpa using this.symm
 subst this
 exact ⟨F,_,hr,hB.range⟩
theorem zme [RepZ α] {t:TypeId} {fs:Array Field} {K:Value→Prop} (hu:P.underlying t=some (.struct fs)) (hz:zcj P t=some (RepZ.zc α)) (hf:(fs.toList.all fun f=>(P.info? f.type).isSome)=true) (ha:Rep.agg α=true)
   (k:∀ v,Is w v (RepZ.zv:α)→K v):RD P (Instr.build t #[]) w K:=by
 unfold zcj at hz
 cases hi:P.info? t with
 | none=>simp [hi] at hz
 | some i=>
   simp only [hi] at hz
   obtain ⟨z,hz',hzc⟩:=Option.map_eq_some_iff.1 hz
   have hm:∀ w',∃ ps,(fs.mapM fun f=>do pure (f.offset,←sizeOf f.type):Sem (Array (Nat×Nat))).run P w'=.ok ps w':=by
     intro w'
     have:∀ l:List Field,(l.all fun f=>(P.info? f.type).isSome)=true→∃ ps,(l.mapM fun f=>do pure (f.offset,←sizeOf f.type):Sem (List (Nat×Nat))).run P w'=.ok ps w':=by
       intro l
       induction l with
       | nil=>intro _;exact ⟨[],by simp⟩
       | cons f l ih=>
         intro h
         simp only [List.all_cons,Bool.and_eq_true] at h
         obtain ⟨j,hj⟩:=Option.isSome_iff_exists.1 h.1
         obtain ⟨ps,hps⟩:=ih h.2
         have hsz:(sizeOf f.type).run P w'=.ok j.size w':=by simp [sizeOf,typeInfo,hj]
         exact ⟨(f.offset,j.size) :: ps,by simp only [List.mapM_cons,Sem.run_bind,hsz,Result.andThen_ok,Sem.run_pure,hps]⟩
     obtain ⟨ps,hps⟩:=this fs.toList hf
     exact ⟨ps.toArray,by rw [Array.mapM_eq_mapM_toList];simp only [map_eq_pure_bind,Sem.run_bind,hps,Result.andThen_ok,Sem.run_pure]⟩
   refine zaQ (v:=mkv α (RepZ.zc α)) (fun w' _=>?_) (k _ ⟨[],_,RepZ.zr w,rfl⟩)
   obtain ⟨ps,hps⟩:=hm w'
   have e:z.cells=(RepZ.zc α).toArray:=by rw [←hzc]
   have hzv:(zeroValue t).run P w'=.ok z w':=by simp [zeroValue,typeInfo,hi,hz']
   simp only [Instr.build,Sem.run_bind,hzv,Result.andThen_ok,run_underlying hu,hps]
   simp [Instr.fill,mkv,ha,e]
end
end Go.Sh
namespace Go.Sh
open Go.RowKit (Below)
open Rep (rep)
section
variable {P:Program} {w w0 w':World} {α β γ:Type} [Rep α] [Rep β]
def OwnS (S:List Nat) (w:World) (v:Value) (x:α):Prop:=∃ F,Mine F w v x∧∀ b∈F,b∈S
theorem Mine.toS {F:List Nat} {v:Value} {x:α} (h:Mine F w v x):OwnS F w v x:=⟨F,h,fun _ h=>h⟩
theorem OwnS.mono {S T:List Nat} {v:Value} {x:α} (h:OwnS S w v x) (hs:∀ b∈S,b∈T):OwnS T w v x:=by
 obtain ⟨F,hm,hF⟩:=h;exact ⟨F,hm,fun b hb=>hs b (hF b hb)⟩
theorem OwnS.is {S:List Nat} {v:Value} {x:α} (h:OwnS S w v x):Is w v x:=by obtain ⟨F,hm,_⟩:=h;exact hm.is
theorem OwnS.toI {S:List Nat} {v:Value} {x:α} {lo hi:Nat} (h:OwnS S w v x) (hs:∀ b∈S,lo≤b∧b<hi):OwnI lo hi w v x:=by
 obtain ⟨F,hm,hF⟩:=h;exact ⟨F,hm,fun b hb=>hs b (hF b hb)⟩
theorem zcd {t e:TypeId} {by_:Nat} {F:List Nat} {v:Value} {l:List α} {k:Nat} {K:Value→Prop} (ht:P.underlying t=some (.slice e)) (he:tyI P e=some (Rep.size α,by_,Rep.agg α)) (hm:Mine F w v l) (hk:k<l.length)
   (kk:∀ b o G,Lens (MH v) F w b o G l[k] (fun y=>l.set k y)→K (.pointer (some ⟨b,o,none⟩))):RD P (Instr.indexAt t v (.int .i64 (k:Int))) w K:=by
 obtain ⟨b,a,cap,G,hv,hL⟩:=zqa hm hk
 refine zaQ (v:=.pointer (some ⟨b,a+k*Rep.size α,none⟩)) (fun w' _=>?_) (kk _ _ _ hL)
 rw [hv,zcs ht he (by omega) (by omega)];simp
theorem zdz {ft by_ b o:Nat} {H:List Nat→World→γ→Prop} {F G:List Nat} {l:List β} {upd:List β→γ} {K:Value→Prop} (hft:tyI P ft=some (1,by_,false)) (hL:Lens H F w b o G l upd)
   (k:∀ u,Mine G w u l→(∀ c∈G,c∈F)→(∀ w' G' l',Chg G w w'→Mine G' w' u l'→(∀ c∈G',c∈G∨c∉F)→∃ F',H F' w' (upd l')∧∀ c∈F',c∈F∨c∈G')→K u) :
   RD P (Instr.loadAt ft (.pointer (some ⟨b,o,none⟩))) w K:=by
 obtain ⟨u,hM,hr,hG,hb⟩:=hL.row
 refine zaQ (fun w' hx'=>?_) (k u hM hG hb)
 have h0:w'.cell? ⟨b,o,none⟩=some u:=by simpa using (zbo hr hx') 0 u rfl
 have hA:=zcJ hft w'
 simp [Instr.loadAt,Instr.sureAddr,loadVar,hA,h0]
theorem zap {ft by_ g e o:Nat} {cs:List Value} {v:Value} {K:Value→Prop} (hft:tyI P ft=some (1,by_,false)) (hB:Blk g e w cs) (ho:cs[o]?=some v) (k:K v) :
   RD P (Instr.loadAt ft (.pointer (some ⟨g,o,none⟩))) w K:=by
 refine zaQ (fun w' hx'=>?_) k
 have h0:w'.cell? ⟨g,o,none⟩=some v:=by simpa using (zbo hB.range hx') o v ho
 have hA:=zcJ hft w'
 simp [Instr.loadAt,Instr.sureAddr,loadVar,hA,h0]
theorem zjS {t:TypeId} {cs:Array Value} {K:Value→World→Prop} (k:∀ w',Ext w w'→Blk w.heap.size t w' cs.toList→K (.pointer (some ⟨w.heap.size,0,none⟩)) w'):OP P (Instr.box t (.agg cs)) w K:=
 ⟨_,w.alloc (.cells cs t),by simp [Instr.box,newVar,newRow,Value.cells],k _ (zay w _) (by unfold Blk;rw [heap_alloc_new w _])⟩
theorem zcu {t by_ b o:Nat} {F G:List Nat} {v:Value} {y y':β} {upd:β→α} {u:Value} {K:World→Prop} (ht:tyI P t=some (Rep.size β,by_,Rep.agg β)) (h:Lens (MH v) F w b o G y upd)
   (hu:Mine [] w u y') (k:∀ w' F',Chg F w w'→Mine F' w' v (upd y')→(∀ c∈F',c∈F)→K w'):OPU P (Instr.storeAt t (.pointer (some ⟨b,o,none⟩)) u) w K:=
 znK ht h hu (by simp) fun w' hc ⟨F',h1,h2⟩=>k w' F' hc h1 fun c hc=>by
   rcases h2 c hc with h | h
   · exact h
   simp at h
theorem za6 {x:Int} (h:I64 x):Mine [] w (.int .i64 x) x:=⟨⟨_,⟨rfl,rfl,h⟩,rfl⟩,List.nodup_nil,Wr.nil w⟩
theorem zhL {x:ByteArray} (h:x.size≤maxLen):Mine [] w (.string x) x:=⟨⟨_,⟨rfl,rfl,h⟩,rfl⟩,List.nodup_nil,Wr.nil w⟩
theorem zga {x:Bool}:Mine [] w (.bool x) x:=⟨⟨_,⟨rfl,rfl⟩,rfl⟩,List.nodup_nil,Wr.nil w⟩
theorem Chg.sub {F G:List Nat} {a b c:World} (h:Chg F a b) (k:Chg G b c) (hs:∀ x∈G,x∈F):Chg F a c:=h.trans (k.mono hs)
theorem zcQ {F:List Nat} {cs:List Value} {l:List β} (hr:rep F w cs l) (hn:F.Nodup) (hw:Wr F w):∃ u,cs=[u]∧Mine F w u l:=by
 have h:=hr
 obtain ⟨a,cap,Fi,xs,rfl,_⟩:=h
 exact ⟨_,rfl,⟨_,hr,rfl⟩,hn,hw⟩
theorem zg8 {t e ft i off by_ by2:Nat} {F:List Nat} {v u:Value} {l:List α} {k:Nat} {y':β} {sel:α→β} {g:α→β→α} {K:World→Prop} (ht:P.underlying t=some (.slice e)) (he:tyI P e=some (Rep.size α,by_,Rep.agg α)) (hf:zcY P e i=some off) (hft:tyI P ft=some (Rep.size β,by2,Rep.agg β))
   (L:∀ {a:α} {G:List Nat} {b o:Nat} {upd:α→List α},Lens (MH v) F w b o G a upd→∃ G1,Lens (MH v) F w b (o+off) G1 (sel a) (fun y=>upd (g a y))) (hm:Mine F w v l) (hk:k<l.length) (hu:Mine [] w u y')
   (kk:∀ w' F',Chg F w w'→Mine F' w' v (l.set k (g l[k] y'))→(∀ c∈F',c∈F)→K w') :
   RD P (Instr.indexAt t v (.int .i64 (k:Int))) w fun p=>RD P (Instr.fieldAt e p i) w fun q=>OPU P (Instr.storeAt ft q u) w K:=by
 refine zcd ht he hm hk fun b o G hL=>?_
 refine zaa hf ?_
 obtain ⟨G1,hL1⟩:=L hL
 exact zcu (upd:=fun y=>l.set k (g l[k] y)) hft hL1 hu kk
theorem zjT {t e e2 ft i j off off2 by_ by2:Nat} {F:List Nat} {v u:Value} {l:List α} {k:Nat} {y':β} {sel:α→β} {g:α→β→α} {K:World→Prop} (ht:P.underlying t=some (.slice e)) (he:tyI P e=some (Rep.size α,by_,Rep.agg α)) (hf:zcY P e i=some off) (hf2:zcY P e2 j=some off2) (hft:tyI P ft=some (Rep.size β,by2,Rep.agg β))
   (L:∀ {a:α} {G:List Nat} {b o:Nat} {upd:α→List α},Lens (MH v) F w b o G a upd→∃ G1,Lens (MH v) F w b (o+off+off2) G1 (sel a) (fun y=>upd (g a y))) (hm:Mine F w v l) (hk:k<l.length) (hu:Mine [] w u y')
   (kk:∀ w' F',Chg F w w'→Mine F' w' v (l.set k (g l[k] y'))→(∀ c∈F',c∈F)→K w') :
   RD P (Instr.indexAt t v (.int .i64 (k:Int))) w fun p=>RD P (Instr.fieldAt e p i) w fun q=>RD P (Instr.fieldAt e2 q j) w fun q=>OPU P (Instr.storeAt ft q u) w K:=by
 refine zcd ht he hm hk fun b o G hL=>?_
 refine zaa hf ?_
 refine zaa hf2 ?_
 obtain ⟨G1,hL1⟩:=L hL
 exact zcu (upd:=fun y=>l.set k (g l[k] y)) hft hL1 hu kk
def RestL (i:Nat) (cur l:List α):Prop:=cur.length=l.length∧∀ j,i≤j→cur[j]?=l[j]?
theorem RestL.set1 {i:Nat} {cur l:List α} (h:RestL (i+1) cur l) (x:α):RestL (i+1) (cur.set i x) l:=
 ⟨by rw [List.length_set];exact h.1,fun j hj=>by rw [List.getElem?_set_ne (by omega)];exact h.2 j (by omega)⟩
theorem RestL.get {i:Nat} {cur l:List α} (h:RestL i cur l) (hi:i<l.length):cur[i]'(by rw [h.1];exact hi)=l[i]:=by
 have:=h.2 i (Nat.le_refl _)
 rw [List.getElem?_eq_getElem (by rw [h.1];exact hi),List.getElem?_eq_getElem hi] at this
 exact Option.some.inj this
def KeepF {γ:Type} (f:α→γ) (i:Nat) (cur l:List α):Prop:=RestL (i+1) cur l∧∃ (h:i<cur.length) (h':i<l.length),f cur[i]=f l[i]
theorem RestL.keepF {γ:Type} {f:α→γ} {i:Nat} {cur l:List α} (h:RestL i cur l) (hi:i<l.length):KeepF f i cur l:=
 ⟨⟨h.1,fun j hj=>h.2 j (by omega)⟩,by rw [h.1];exact hi,hi,by rw [h.get hi]⟩
theorem KeepF.set {γ:Type} {f:α→γ} {i:Nat} {cur l:List α} (h:KeepF f i cur l) {x:α} (hx:∀ h:i<cur.length,f x=f cur[i]):KeepF f i (cur.set i x) l:=by
 obtain ⟨h1,h2,h3,h4⟩:=h
 exact ⟨h1.set1 x,by rw [List.length_set];exact h2,h3,by rw [List.getElem_set_self,hx h2,h4]⟩
theorem Mine.chgD {α:Type} [Rep α] {F G:List Nat} {w w':World} {v:Value} {x:α} (h:Mine F w v x) (hc:Chg G w w') (hd:∀ b∈F,b∉G):Mine F w' v x:=h.keep fun b hb=>hc.block b (h.lt b hb) (hd b hb)
theorem zcv {F G:List Nat} (h:(F++G).Nodup):F.Nodup∧G.Nodup∧∀ a∈F,a∉G:=by
 rw [List.nodup_append] at h
 exact ⟨h.1,h.2.1,fun a ha hb=>h.2.2 a ha a hb rfl⟩
theorem Var.chgI {t g a b:Nat} {v:Value} (h:Var P t w g v) (hc:ChgI a b w w') (hd:g<a∨b≤g):Var P t w' g v:=h.keep (hc.block g h.lt hd)
end
end Go.Sh
namespace Go.Sh
def zhM (m n:Nat):Nat:=Nat.bitwise (fun a b=>a&&!b) m n
theorem zce (m n i:Nat):(zhM m n).testBit i=(m.testBit i&&!n.testBit i):=Nat.testBit_bitwise rfl m n i
theorem zgb (m n:Nat):zhM m n≤m:=Nat.le_of_testBit fun i h=>by rw [zce] at h;simp at h;exact h.1
section
variable {P:Program} {w:World} {K:Value→Prop} {t:TypeId} {x y:Operand}
theorem zmf {m n:Nat} (hm:m<4611686018427387904) (hn:n<4611686018427387904) (k:K (.int .i64 ((m &&& n:Nat):Int))):RD P (bin .and t x y (.int .i64 (m:Int)) (.int .i64 (n:Int))) w K:=by
 have hlt:m &&& n≤m:=Nat.and_le_left
 refine zaQ (fun w' _=>?_) k
 have e1:IntKind.i64.wrap ((m &&& n:Nat):Int)=((m &&& n:Nat):Int):=IntWalk.i64_in _ (by omega)
 have e2:((BitVec.ofInt 64 (m:Int)) &&& (BitVec.ofInt 64 (n:Int))).toNat=m &&& n:=by
   simp only [BitVec.toNat_and,BitVec.ofInt_natCast,BitVec.toNat_ofNat]
   rw [Nat.mod_eq_of_lt (by omega),Nat.mod_eq_of_lt (by omega)]
 show (do eqGuard .and t x y (.int .i64 (m:Int)) (.int .i64 (n:Int));binOp .and t (.int .i64 (m:Int)) (.int .i64 (n:Int)):Sem Value).run P w'=_
 simp only [eqGuard,binOp,Op.intBits]
 show Result.ok (Value.int .i64 (IntKind.i64.wrap (((BitVec.ofInt 64 (m:Int)) &&& (BitVec.ofInt 64 (n:Int))).toNat:Nat))) w'=_
 rw [e2,e1]
theorem ziA {m n:Nat} (hm:m<4611686018427387904) (hn:n<4611686018427387904) (k:K (.int .i64 ((zhM m n:Nat):Int))):RD P (bin .andNot t x y (.int .i64 (m:Int)) (.int .i64 (n:Int))) w K:=by
 have hlt:zhM m n≤m:=zgb m n
 refine zaQ (fun w' _=>?_) k
 have e1:IntKind.i64.wrap ((zhM m n:Nat):Int)=((zhM m n:Nat):Int):=IntWalk.i64_in _ (by omega)
 have e2:((BitVec.ofInt 64 (m:Int)) &&& ~~~(BitVec.ofInt 64 (n:Int))).toNat=zhM m n:=by
   apply Nat.eq_of_testBit_eq
   intro i
   have hm64:m<2^64:=by omega
   have hn64:n<2^64:=by omega
   simp only [BitVec.testBit_toNat,BitVec.getLsbD_and,BitVec.getLsbD_not,BitVec.ofInt_natCast,BitVec.getLsbD_ofNat,zce]
   by_cases hi:i<64
   · simp [hi]
   have:m.testBit i=false:=Nat.testBit_lt_two_pow (Nat.lt_of_lt_of_le hm64 (Nat.pow_le_pow_right (by omega) (by omega)))
   simp [hi,this]
 show (do eqGuard .andNot t x y (.int .i64 (m:Int)) (.int .i64 (n:Int));binOp .andNot t (.int .i64 (m:Int)) (.int .i64 (n:Int)):Sem Value).run P w'=_
 simp only [eqGuard,binOp,Op.intBits]
 show Result.ok (Value.int .i64 (IntKind.i64.wrap (((BitVec.ofInt 64 (m:Int)) &&& ~~~(BitVec.ofInt 64 (n:Int))).toNat:Nat))) w'=_
 rw [e2,e1]
theorem zoQ {m n:Nat} {ku:IntKind} (hm:m<4611686018427387904) (k:K (.int .i64 ((m >>> n:Nat):Int))):RD P (bin .shr t x y (.int .i64 (m:Int)) (.int ku (n:Int))) w K:=by
 refine zaQ (fun w' _=>?_) k
 have e0:¬((n:Int)<0):=by omega
 have e1:(m:Int).fdiv (2^(min n 64))=((m >>> n:Nat):Int):=by
   rw [Nat.shiftRight_eq_div_pow]
   have h2:((2:Int)^(min n 64))=((2^(min n 64):Nat):Int):=by simp
   rw [h2,Int.fdiv_eq_ediv_of_nonneg _ (Int.natCast_nonneg _),←Int.natCast_ediv]
   by_cases h:n≤64
   · rw [Nat.min_eq_left h]
   rw [Nat.min_eq_right (by omega),Nat.div_eq_of_lt (by omega),Nat.div_eq_of_lt (Nat.lt_of_lt_of_le (by omega:m<2^64) (Nat.pow_le_pow_right (by omega) (by omega)))]
 show (do eqGuard .shr t x y (.int .i64 (m:Int)) (.int ku (n:Int));binOp .shr t (.int .i64 (m:Int)) (.int ku (n:Int)):Sem Value).run P w'=_
 simp only [eqGuard,binOp,Op.shift,e0,if_false,Int.toNat_natCast]
 show Result.ok (Value.int .i64 ((m:Int).fdiv (2^(min n 64)))) w'=_
 rw [e1]
end
def zb3 (m:Nat):Nat→List Int
 | 0=>[]
 | k+1=>if m.testBit k then zb3 m k++[(k:Int)] else zb3 m k
theorem zdo (m:Nat):∀ k,(zb3 m k).length≤k
 | 0=>Nat.le_refl _
 | k+1=>by
   have:=zdo m k
   rw [zb3]
   split
   · simp;omega
   omega
theorem zgc {m k:Nat} (h:m<2^k):∀ {j:Nat},k≤j→zb3 m j=zb3 m k
 | 0,hj=>by rw [Nat.le_zero.1 hj]
 | j+1,hj=>by
   by_cases e:k=j+1
   · rw [e]
   rw [zb3,if_neg,zgc h (by omega)]
   rw [Nat.testBit_lt_two_pow (Nat.lt_of_lt_of_le h (Nat.pow_le_pow_right (by omega) (by omega)))]
   simp
def zba (m:Nat):List Int:=zb3 m 64
theorem zhN {m k:Nat} (h:m<2^k) (hk:k≤64):zba m=zb3 m k:=zgc h hk
theorem zb4 {m:Nat} {x:Int}:∀ {k:Nat},x∈zb3 m k↔∃ i,i<k∧x=(i:Int)∧m.testBit i=true
 | 0=>by simp [zb3]
 | k+1=>by
   rw [zb3]
   constructor
   · intro h
     split at h
     · rename_i hb
       rcases List.mem_append.1 h with h | h
       · obtain ⟨i,h1,h2,h3⟩:=zb4.1 h;exact ⟨i,by omega,h2,h3⟩
       simp at h;exact ⟨k,by omega,h,hb⟩
     obtain ⟨i,h1,h2,h3⟩:=zb4.1 h;exact ⟨i,by omega,h2,h3⟩
   rintro ⟨i,h1,h2,h3⟩
   by_cases e:i=k
   · subst e;rw [if_pos h3];simp [h2]
   have:=(zb4 (m:=m) (x:=x) (k:=k)).2 ⟨i,by omega,h2,h3⟩
   split
   · simp [this]
   exact this
theorem zmg (m i:Nat):decide (((m >>> i &&& 1:Nat):Int)=1)=m.testBit i:=by
 have h:m >>> i &&& 1=(m.testBit i).toNat:=by
   rw [Nat.and_one_is_mod,Nat.testBit_eq_decide_div_mod_eq,Nat.shiftRight_eq_div_pow]
   rcases Nat.mod_two_eq_zero_or_one (m / 2^i) with h | h<;>simp [h]
 rw [h]
 cases m.testBit i<;>rfl
theorem znP (m i:Nat):decide (((m &&& 2^i:Nat):Int)≠0)=m.testBit i:=by
 have hp:0<2^i:=Nat.pow_pos (by omega)
 cases hb:m.testBit i with
 | false=>
   have:m &&& 2^i=0:=by
     apply Nat.eq_of_testBit_eq
     intro j
     rw [Nat.testBit_and,Nat.testBit_two_pow]
     by_cases e:i=j
     · subst e;simp [hb]
     simp [e]
   simp [this]
 | true=>
   have:m &&& 2^i≠0:=fun e=>by
     have:=congrArg (·.testBit i) e
     simp [Nat.testBit_and,Nat.testBit_two_pow,hb] at this
   simp only [ne_eq,decide_eq_true_eq]
   omega
theorem zkG {m i:Nat}:m >>> i=0↔m<2^i:=by
 rw [Nat.shiftRight_eq_div_pow,Nat.div_eq_zero_iff]
 have:¬(2^i=0):=by have:0<2^i:=Nat.pow_pos (by omega);omega
 simp [this]
end Go.Sh
namespace Go.Sh
open Rep (rep)
instance:Rep Nat where
 size:=1
 agg:=false
 rep F _ cs x:=F=[]∧cs=[.int .u64 (x:Int)]∧x<18446744073709551616
 pos:=by decide
 sz _:=rfl
 len:=by rintro _ _ _ _ ⟨_,rfl,_⟩;rfl
 one:=by rintro _ _ _ _ ⟨_,rfl,_⟩ v hv;simp at hv;subst hv;rfl
 keep:=by rintro _ _ _ _ _ h _;exact h
 lt:=by rintro _ _ _ _ ⟨rfl,_⟩ b hb;cases hb
instance:Flat Nat:=⟨fun h=>h.1⟩
instance:RepZ Nat:=⟨0,[.int .u64 0],fun _=>⟨rfl,rfl,by decide⟩⟩
section
variable {P:Program} {w w0:World} {K:Value→Prop} {t:TypeId} {x y:Operand}
theorem znQ {x:Nat} (h:x<18446744073709551616):Mine [] w (.int .u64 (x:Int)) x:=⟨⟨_,⟨rfl,rfl,h⟩,rfl⟩,List.nodup_nil,Wr.nil w⟩
theorem zkH {t by_ b o:Nat} {x:Nat} (ht:tyI P t=some (1,by_,false)) (h:At w0 b o x) (hx:Ext w0 w) (k:K (.int .u64 (x:Int))):RD P (Instr.loadAt t (.pointer (some ⟨b,o,none⟩))) w K:=
 zab (α:=Nat) ht h hx fun v hv=>by
   obtain ⟨F,cs,⟨_,rfl,_⟩,rfl⟩:=hv
   exact k
theorem znR {n:Nat} (h:n<18446744073709551616):IntKind.u64.wrap (n:Int)=(n:Int):=by simp [IntKind.wrap,IntKind.signed,IntKind.bits];omega
theorem zkI {m n:Nat} (hm:m<4611686018427387904) (hn:n<4611686018427387904) (k:K (.int .u64 ((m ||| n:Nat):Int))):RD P (bin .or t x y (.int .u64 (m:Int)) (.int .u64 (n:Int))) w K:=by
 have hlt:m ||| n<2^62:=Nat.or_lt_two_pow hm hn
 refine zaQ (fun w' _=>?_) k
 have e2:((BitVec.ofInt 64 (m:Int)) ||| (BitVec.ofInt 64 (n:Int))).toNat=m ||| n:=by
   simp only [BitVec.toNat_or,BitVec.ofInt_natCast,BitVec.toNat_ofNat]
   rw [Nat.mod_eq_of_lt (by omega),Nat.mod_eq_of_lt (by omega)]
 show (do eqGuard .or t x y (.int .u64 (m:Int)) (.int .u64 (n:Int));binOp .or t (.int .u64 (m:Int)) (.int .u64 (n:Int)):Sem Value).run P w'=_
 simp only [eqGuard,binOp,Op.intBits]
 show Result.ok (Value.int .u64 (IntKind.u64.wrap (((BitVec.ofInt 64 (m:Int)) ||| (BitVec.ofInt 64 (n:Int))).toNat:Nat))) w'=_
 rw [e2,znR (by omega)]
theorem zfl {m n:Nat} (hm:m<4611686018427387904) (hn:n<4611686018427387904) (k:K (.int .u64 ((m &&& n:Nat):Int))):RD P (bin .and t x y (.int .u64 (m:Int)) (.int .u64 (n:Int))) w K:=by
 have hlt:m &&& n≤m:=Nat.and_le_left
 refine zaQ (fun w' _=>?_) k
 have e2:((BitVec.ofInt 64 (m:Int)) &&& (BitVec.ofInt 64 (n:Int))).toNat=m &&& n:=by
   simp only [BitVec.toNat_and,BitVec.ofInt_natCast,BitVec.toNat_ofNat]
   rw [Nat.mod_eq_of_lt (by omega),Nat.mod_eq_of_lt (by omega)]
 show (do eqGuard .and t x y (.int .u64 (m:Int)) (.int .u64 (n:Int));binOp .and t (.int .u64 (m:Int)) (.int .u64 (n:Int)):Sem Value).run P w'=_
 simp only [eqGuard,binOp,Op.intBits]
 show Result.ok (Value.int .u64 (IntKind.u64.wrap (((BitVec.ofInt 64 (m:Int)) &&& (BitVec.ofInt 64 (n:Int))).toNat:Nat))) w'=_
 rw [e2,znR (by omega)]
theorem zg9 {m n:Nat} (hm:m<4611686018427387904) (hn:n<4611686018427387904) (k:K (.int .u64 ((zhM m n:Nat):Int))):RD P (bin .andNot t x y (.int .u64 (m:Int)) (.int .u64 (n:Int))) w K:=by
 have hlt:zhM m n≤m:=zgb m n
 refine zaQ (fun w' _=>?_) k
 have e2:((BitVec.ofInt 64 (m:Int)) &&& ~~~(BitVec.ofInt 64 (n:Int))).toNat=zhM m n:=by
   apply Nat.eq_of_testBit_eq
   intro i
   have hm64:m<2^64:=by omega
   have hn64:n<2^64:=by omega
   simp only [BitVec.testBit_toNat,BitVec.getLsbD_and,BitVec.getLsbD_not,BitVec.ofInt_natCast,BitVec.getLsbD_ofNat,zce]
   by_cases hi:i<64
   · simp [hi]
   have:m.testBit i=false:=Nat.testBit_lt_two_pow (Nat.lt_of_lt_of_le hm64 (Nat.pow_le_pow_right (by omega) (by omega)))
   simp [hi,this]
 show (do eqGuard .andNot t x y (.int .u64 (m:Int)) (.int .u64 (n:Int));binOp .andNot t (.int .u64 (m:Int)) (.int .u64 (n:Int)):Sem Value).run P w'=_
 simp only [eqGuard,binOp,Op.intBits]
 show Result.ok (Value.int .u64 (IntKind.u64.wrap (((BitVec.ofInt 64 (m:Int)) &&& ~~~(BitVec.ofInt 64 (n:Int))).toNat:Nat))) w'=_
 rw [e2,znR (by omega)]
theorem zfm {m n:Nat} {ku:IntKind} (hm:m<4611686018427387904) (k:K (.int .u64 ((m >>> n:Nat):Int))):RD P (bin .shr t x y (.int .u64 (m:Int)) (.int ku (n:Int))) w K:=by
 refine zaQ (fun w' _=>?_) k
 have e0:¬((n:Int)<0):=by omega
 have e1:(m:Int).fdiv (2^(min n 64))=((m >>> n:Nat):Int):=by
   rw [Nat.shiftRight_eq_div_pow]
   have h2:((2:Int)^(min n 64))=((2^(min n 64):Nat):Int):=by simp
   rw [h2,Int.fdiv_eq_ediv_of_nonneg _ (Int.natCast_nonneg _),←Int.natCast_ediv]
   by_cases h:n≤64
   · rw [Nat.min_eq_left h]
   rw [Nat.min_eq_right (by omega),Nat.div_eq_of_lt (by omega),Nat.div_eq_of_lt (Nat.lt_of_lt_of_le (by omega:m<2^64) (Nat.pow_le_pow_right (by omega) (by omega)))]
 show (do eqGuard .shr t x y (.int .u64 (m:Int)) (.int ku (n:Int));binOp .shr t (.int .u64 (m:Int)) (.int ku (n:Int)):Sem Value).run P w'=_
 simp only [eqGuard,binOp,Op.shift,e0,if_false,Int.toNat_natCast]
 show Result.ok (Value.int .u64 ((m:Int).fdiv (2^(min n 64)))) w'=_
 rw [e1]
theorem zjU {n:Nat} {ku:IntKind} (hn:n<62) (k:K (.int .u64 ((2^n:Nat):Int))):RD P (bin .shl t x y (.int .u64 1) (.int ku (n:Int))) w K:=by
 refine zaQ (fun w' _=>?_) k
 have hp:(2^n:Nat)<4611686018427387904:=Nat.pow_lt_pow_right (by omega) hn
 have e1:IntKind.u64.wrap ((2^n:Nat):Int)=((2^n:Nat):Int):=znR (by omega)
 have e0:¬((n:Int)<0):=by omega
 have e2:min n 64=n:=by omega
 show (do eqGuard .shl t x y (.int .u64 1) (.int ku (n:Int));binOp .shl t (.int .u64 1) (.int ku (n:Int)):Sem Value).run P w'=_
 simp only [eqGuard,binOp,Op.shift,e0,if_false,Int.toNat_natCast]
 show Result.ok (Value.int .u64 (IntKind.u64.wrap ((1:Int)*2^(min n 64)))) w'=_
 rw [e2,←e1]
 simp
end
end Go.Sh
namespace Go.Proofs.YtifonhplnmpgaaaGreat
open Go Go.Sh Go.Proofs
open Rep (rep)
section
variable {nx:Nat→List Nat} {n m i j k t:Nat} {A:List DArc} {p q:Nat→Prop}
theorem zpm:FW nx (m+1) m j↔FW nx m m j:=⟨FW.old',.inl⟩
theorem zhO:zbF p n ||| zbF q n=zbF (fun i=>p i∨q i) n:=zcM fun i=>by
 rw [Nat.testBit_or,Bool.or_eq_true,zaA,zaA]
 exact ⟨fun h=>h.elim (fun h=>⟨h.1,.inl h.2⟩) fun h=>⟨h.1,.inr h.2⟩,fun ⟨h,h'⟩=>h'.elim (fun h'=>.inl ⟨h,h'⟩) fun h'=>.inr ⟨h,h'⟩⟩
theorem zhP (hi:i<n):2^i=zbF (fun j=>j=i) n:=zcM fun j=>by
 rw [Nat.testBit_two_pow,decide_eq_true_eq]
 exact ⟨fun h=>⟨h▸hi,h.symm⟩,fun h=>h.2.symm⟩
theorem zmh:0=zbF (fun _=>False) n:=zcM fun j=>by simp
theorem zcy (hn:n≤60):zbF p n<4611686018427387904:=Nat.lt_of_lt_of_le zhA (Nat.le_trans (Nat.pow_le_pow_right (n:=2) (by omega) hn) (by decide))
theorem zpn (hn:n≤60):zbF p n<18446744073709551616:=Nat.lt_trans (zcy hn) (by decide)
noncomputable def zcl (nx:Nat→List Nat) (n m k:Nat):List Nat:=(List.range n).map fun i=>zbF (FW nx (if i<k then m+1 else m) i) n
theorem zbP:(zcl nx n m k).length=n:=by simp [zcl]
theorem zcf (h:i<(zcl nx n m k).length):(zcl nx n m k)[i]=zbF (FW nx (if i<k then m+1 else m) i) n:=by simp [zcl]
theorem zlh (h:m<(zcl nx n m k).length):(zcl nx n m k)[m]=zbF (FW nx m m) n:=by
 rw [zcf]
 refine zaU fun j _=>?_
 split
 · exact zpm
 exact .rfl
theorem zli:zcl nx n m n=zcl nx n (m+1) 0:=List.map_congr_left fun i hi=>by
 rw [if_pos (List.mem_range.1 hi),if_neg (by omega)]
theorem zlj (x:Nat) (hx:x=zbF (FW nx (m+1) k) n) (hk:k<n):(zcl nx n m k).set k x=zcl nx n m (k+1):=by
 subst hx
 refine List.ext_getElem (by simp [zcl]) fun i h1 h2=>?_
 rw [List.getElem_set,zcf,zcf]
 by_cases h:k=i
 · subst h;rw [if_pos rfl,if_pos (by omega)]
 rw [if_neg h]
 by_cases h3:i<k
 · rw [if_pos h3,if_pos (by omega)]
 rw [if_neg h3,if_neg (by omega)]
theorem zlk (h:¬FW nx m k m):zcl nx n m k=zcl nx n m (k+1):=List.map_congr_left fun i hi=>by
 by_cases h3:i<k
 · rw [if_pos h3,if_pos (by omega)]
 rw [if_neg h3]
 by_cases h4:i<k+1
 · have:i=k:=by omega
   subst this
   rw [if_pos h4]
   exact zaU fun j _=>⟨.inl,fun h'=>h'.elim id fun h'=>absurd h'.1 h⟩
 rw [if_neg h4]
theorem zqI (h:FW nx m k m):zbF (FW nx m k) n ||| zbF (FW nx m m) n=zbF (FW nx (m+1) k) n:=by
 rw [zhO]
 exact zaU fun j _=>⟨fun h'=>h'.elim .inl fun h'=>.inr ⟨h,h'⟩,fun h'=>h'.elim .inl fun h'=>.inr h'.2⟩
noncomputable def zgd (nx:Nat→List Nat) (n:Nat):List Nat:=(List.range n).map fun i=>zbF (RP nx i) n
theorem ziB:(zgd nx n).length=n:=by simp [zgd]
theorem ziC (h:i<(zgd nx n).length):(zgd nx n)[i]=zbF (RP nx i) n:=by simp [zgd]
theorem zmi (hn:∀ i j,j∈nx i→i<n∧j<n):zcl nx n n 0=zgd nx n:=List.map_congr_left fun i hi=>by
 rw [if_neg (by omega)]
 exact zaU fun j _=>FW.iff hn
theorem zpo:nxA n []=fun _=>[]:=by
 funext i
 unfold nxA zbw
 rw [List.filter_eq_nil_iff]
 intro j _ h
 simp at h
theorem zkJ {a:DArc} (hf:a.fr=(i:Int)) (ht:a.to=(k:Int)) (hi:i<n) (hk:k<n) {x y:Nat}:y∈nxA n (A++[a]) x↔y∈nxA n A x∨(x=i∧y=k):=by
 unfold nxA
 simp only [za1,List.mem_append,List.mem_singleton,DArc.ext_iff,hf,ht]
 constructor
 · rintro ⟨h1,h2,h3 | ⟨h3,h4⟩⟩
   · exact .inl ⟨h1,h2,h3⟩
   exact .inr ⟨Int.ofNat_inj.1 h3,Int.ofNat_inj.1 h4⟩
 rintro (⟨h1,h2,h3⟩ | ⟨rfl,rfl⟩)
 · exact ⟨h1,h2,.inl h3⟩
 exact ⟨hk,hi,.inr ⟨rfl,rfl⟩⟩
theorem zmj:List.replicate n 0=zcl (nxA n []) n 0 0:=by
 refine List.ext_getElem (by simp [zcl]) fun i h1 h2=>?_
 rw [zcf,List.getElem_replicate]
 refine zcM fun j=>?_
 rw [if_neg (by omega),zpo]
 simp [FW]
theorem zll {a:DArc} (hf:a.fr=(i:Int)) (ht:a.to=(k:Int)) (hi:i<n) (hk:k<n) (h:i<(zcl (nxA n A) n 0 0).length) :
   (zcl (nxA n A) n 0 0).set i ((zcl (nxA n A) n 0 0)[i] ||| 2^k)=zcl (nxA n (A++[a])) n 0 0:=by
 refine List.ext_getElem (by simp [zcl]) fun x h1 h2=>?_
 rw [List.getElem_set]
 simp only [zcf,zhP hk,zhO]
 by_cases hx:i=x
 · subst hx
   rw [if_pos rfl,if_neg (by omega)]
   refine zaU fun j _=>?_
   show _↔j∈nxA n (A++[a]) i
   rw [zkJ hf ht hi hk]
   exact ⟨fun h=>h.elim .inl fun h=>.inr ⟨rfl,h⟩,fun h=>h.elim .inl fun h=>.inr h.2⟩
 rw [if_neg hx,if_neg (by omega)]
 refine zaU fun j _=>?_
 show j∈nxA n A x↔j∈nxA n (A++[a]) x
 rw [zkJ hf ht hi hk]
 exact ⟨.inl,fun h=>h.elim id fun h=>absurd h.1.symm hx⟩
end
section
variable {n i j f:Nat} {way:Nat→Nat→Prop} {told:Nat→Prop}
def zgX (way:Nat→Nat→Prop) (i j x:Nat):Prop:=x=i∨(x<j∧way i x∧way x i)
theorem zlm (hi:i<n):2^i=zbF (zgX way i 0) n:=by
 rw [zhP hi]
 exact zaU fun j _=>⟨.inl,fun h=>h.elim id fun h=>by omega⟩
theorem zmk (hj:j<n) (h1:way i j) (h2:way j i):zbF (zgX way i j) n ||| 2^j=zbF (zgX way i (j+1)) n:=by
 rw [zhP hj,zhO]
 refine zaU fun x _=>?_
 unfold zgX
 constructor
 · rintro ((h | h) | rfl)
   · exact .inl h
   · exact .inr ⟨by omega,h.2⟩
   exact .inr ⟨by omega,h1,h2⟩
 rintro (h | ⟨h3,h4⟩)
 · exact .inl (.inl h)
 rcases Nat.lt_or_eq_of_le (Nat.lt_succ_iff.1 h3) with h5 | h5
 · exact .inl (.inr ⟨h5,h4⟩)
 exact .inr h5
theorem zkK (h:¬(way i j∧way j i)):zbF (zgX way i j) n=zbF (zgX way i (j+1)) n:=by
 refine zaU fun x _=>?_
 unfold zgX
 constructor
 · rintro (h1 | h1)
   · exact .inl h1
   exact .inr ⟨by omega,h1.2⟩
 rintro (h1 | ⟨h3,h4⟩)
 · exact .inl h1
 rcases Nat.lt_or_eq_of_le (Nat.lt_succ_iff.1 h3) with h5 | h5
 · exact .inr ⟨h5,h4⟩
 subst h5;exact absurd h4 h
theorem zml:zbF (zgX way i n) n=zbF (zbh way i) n:=zaU fun x hx=>
 ⟨fun h=>h.elim .inl fun h=>.inr h.2,fun h=>h.elim .inl fun h=>.inr ⟨hx,h⟩⟩
theorem znS (hi:i<n) (ht:¬told i):zhM (zhM (zbF (way i) n) (zbF (zbh way i) n)) (zbF told n)=0↔OkC n way told i:=by
 constructor
 · intro h
   refine ⟨hi,ht,fun j hj hw=>?_⟩
   have h1:(zhM (zhM (zbF (way i) n) (zbF (zbh way i) n)) (zbF told n)).testBit j=false:=by rw [h];simp
   rw [zce,zce] at h1
   have h2:(zbF (way i) n).testBit j=true:=zaA.2 ⟨hj,hw⟩
   rw [h2] at h1
   by_cases h3:(zbF told n).testBit j=true
   · exact .inr (zaA.1 h3).2
   have h4:(zbF (zbh way i) n).testBit j=true:=by
     cases e:(zbF (zbh way i) n).testBit j
     · simp [e,h3] at h1
     rfl
   rcases (zaA.1 h4).2 with rfl | h5
   · exact .inl hw
   exact .inl h5.2
 rintro ⟨_,_,h⟩
 refine Nat.eq_of_testBit_eq fun j=>?_
 rw [zce,zce,Nat.zero_testBit]
 cases e:(zbF (way i) n).testBit j
 · simp
 obtain ⟨hj,hw⟩:=zaA.1 e
 rcases h j hj hw with h1 | h1
 · have:(zbF (zbh way i) n).testBit j=true:=zaA.2 ⟨hj,.inr ⟨hw,h1⟩⟩
   simp [this]
 have:(zbF told n).testBit j=true:=zaA.2 ⟨hj,h1⟩
 simp [this]
theorem zpp (h:i<n):zbF told n ||| zbF (zbh way i) n=zbF (zeT way told i) n:=zhO
end
end Go.Proofs.YtifonhplnmpgaaaGreat
namespace Go.Sh
open Rep (rep)
section
variable {P:Program} {w w0:World} {α:Type} [Rep α]
theorem ziD [RepZ α] {z:Value} (hz:RepZ.zc α=[z]) (w:World):∀ n,Cells [] w (List.replicate n z) (List.replicate n (RepZ.zv:α))
 | 0=>⟨rfl,rfl⟩
 | n+1=>⟨[],[],[z],List.replicate n z,rfl,rfl,hz▸RepZ.zr w,ziD hz w n⟩
theorem znT (z:Value) (n:Nat):(madeCells #[z] n).toList=List.replicate n z:=by
 apply List.ext_getElem
 · simp [madeCells]
 intro i h1 h2
 simp [madeCells,Nat.mod_one]
theorem zeb [RepZ α] {t e:TypeId} {by_:Nat} {z:Value} {K:Value→World→Prop} {n:Nat} (ht:P.underlying t=some (.slice e)) (he:tyI P e=some (Rep.size α,by_,Rep.agg α)) (h1:Rep.size α=1) (hzc:RepZ.zc α=[z]) (hz:zcj P e=some [z])
   (hb:by_*n≤281474976710656) (hm:n≤9223372036854775807)
   (k:∀ w',Ext w w'→RowI w.heap.size w'.heap.size e w' (.slice (some ⟨w.heap.size,0,none⟩) n n) (List.replicate n (RepZ.zv:α))→K (.slice (some ⟨w.heap.size,0,none⟩) n n) w') :
   OP P (Instr.makeSlice t (.int .i64 (n:Int)) (.int .i64 (n:Int))) w K:=by
 obtain ⟨i,d,hi,hd,hs,hby,hg⟩:=zca he
 unfold zcj at hz
 rw [hi] at hz
 obtain ⟨zz,hzz,hcz⟩:=Option.map_eq_some_iff.1 hz
 have hb':(i.bytes:Int)*(n:Int)≤281474976710656:=by
   have h:((i.bytes*n:Nat):Int)≤281474976710656:=by rw [hby];omega
   rwa [Int.natCast_mul] at h
 have hr:=run_make (P:=P) w t e i zz ht hi hzz .i64 .i64 n n (by omega) (Int.le_refl _) hb' (by omega)
 simp only [Int.toNat_natCast] at hr
 have hcells:zz.cells=#[z]:=by apply Array.ext';simpa using hcz
 have hlen:n*i.size=n:=by rw [hs,h1,Nat.mul_one]
 rw [hcells,hlen] at hr
 refine ⟨_,_,hr,k _ (zay w _) (.inr ⟨[w.heap.size],⟨List.replicate n z,[],⟨?_,.inr ⟨w.heap.size,n,madeCells #[z] n,?_,Nat.zero_le _,heap_alloc_new w _,by simp,by rw [zam];omega,?_,?_⟩⟩,ziD hzc _ n,rfl,Wr.nil _⟩,by simp,?_⟩)⟩
 · simp [h1]
 · simp
 · rw [h1];simp [madeCells]
 · rw [znT,List.length_replicate,h1,Nat.mul_one,List.take_of_length_le (by simp)]
 intro b hb
 simp only [List.mem_cons,List.not_mem_nil,or_false] at hb
 subst hb
 exact ⟨Nat.le_refl _,(Array.getElem?_eq_some_iff.1 (heap_alloc_new w _)).1⟩
theorem zec {K:Value→Prop} {t:TypeId} {parts:Array (Nat×Value)} {cells:Array Value} (h:P.built t parts.toList=some cells) (k:K (.agg cells)):RD P (Instr.build t parts) w K:=
 zaQ (fun w' _=>run_build w' t parts cells h) k
theorem zcg {t by_ g e o:Nat} {cs:List Value} {u:Value} {lo hi:Nat} {x:α} {K:World→Prop} (ht:tyI P t=some (1,by_,false)) (h1:Rep.size α=1) (ha:Rep.agg α=false) (hB:Blk g e w cs) (ho:o<cs.length) (hu:OwnI lo hi w u x)
   (k:∀ w',ChgI g (g+1) w w'→Blk g e w' (cs.set o u)→K w'):OPU P (Instr.storeAt t (.pointer (some ⟨g,o,none⟩)) u) w K:=by
 obtain ⟨F,⟨⟨cs',hr,hv⟩,_⟩,_⟩:=hu
 have hl':=Rep.len hr
 rw [h1] at hl'
 obtain ⟨c,rfl⟩:=List.length_eq_one_iff.1 hl'
 have huc:u=c:=by simpa [mkv,ha] using hv
 subst huc
 refine zpk (by rw [h1,ha];exact ht) hB hr hv (by omega) fun w' hc hB'=>k w' (hc.toI (by simp)) ?_
 have:cs.set o u=cs.take o++[u]++cs.drop (o+1):=by
   rw [List.set_eq_take_append_cons_drop,if_pos ho];simp
 rw [this];exact hB'
theorem Blk.chgI {g e a b:Nat} {w':World} {cs:List Value} (h:Blk g e w cs) (hc:ChgI a b w w') (hd:g<a∨b≤g):Blk g e w' cs:=h.keep (hc.block g h.lt hd)
end
end Go.Sh
namespace Go.Sh
open Rep (rep)
def RowG {α:Type} [Rep α] (F:List Nat) (e:TypeId) (w:World) (v:Value) (l:List α):Prop:=(∃ a,v=.slice a 0 0∧l=[]∧F=[])∨RowF F e w v l
section
variable {P:Program} {w w0 w':World} {α β γ:Type} [Rep α] [Rep β] {e lo hi:Nat} {v:Value} {l:List α} {F:List Nat}
theorem RowG.lt (h:RowG F e w v l):∀ b∈F,b<w.heap.size:=by
 rcases h with ⟨a,_,_,rfl⟩ | h
 · simp
 exact h.lt
theorem RowG.keep (h:RowG F e w v l) (hk:∀ b∈F,w'.heap[b]?=w.heap[b]?):RowG F e w' v l:=by
 rcases h with h | h
 · exact .inl h
 exact .inr (h.keep hk)
theorem RowG.own (h:RowG F e w v l):OwnF F w v l:=by
 rcases h with ⟨a,rfl,rfl,rfl⟩ | h
 · exact ⟨_,⟨a,0,[],[],rfl,Nat.le_refl _,Nat.zero_le _,⟨rfl,rfl⟩,.inl ⟨rfl,rfl⟩⟩,rfl⟩
 exact h.own
theorem RowG.wr (h:RowG F e w v l):Wr F w:=by
 rcases h with ⟨a,_,_,rfl⟩ | h
 · exact Wr.nil w
 exact h.wr
theorem RowG.one (h:RowG F e w v l):v.oneCell'=true:=by
 obtain ⟨cs,⟨a,cap,Fi,xs,rfl,_⟩,rfl⟩:=h.own
 rfl
theorem zfJ:RowI lo hi e w v l↔∃ F,RowG F e w v l∧F.Nodup∧∀ b∈F,lo≤b∧b<hi:=by
 constructor
 · rintro (⟨a,h1,h2⟩ | ⟨F,h1,h2,h3⟩)
   · exact ⟨[],.inl ⟨a,h1,h2,rfl⟩,List.nodup_nil,by simp⟩
   exact ⟨F,.inr h1,h2,h3⟩
 rintro ⟨F,(⟨a,h1,h2,_⟩ | h1),h2',h3⟩
 · exact .inl ⟨a,h1,h2⟩
 exact .inr ⟨F,h1,h2',h3⟩
end
structure RV (α:Type) (e:TypeId) where
 v:Value
 l:List α
instance {α:Type} [Rep α] {e:TypeId}:Rep (RV α e) where
 size:=1
 agg:=false
 rep F w cs x:=cs=[x.v]∧RowG F e w x.v x.l
 pos:=by decide
 sz _:=rfl
 len:=by rintro _ _ _ _ ⟨rfl,_⟩;rfl
 one:=by rintro _ _ _ _ ⟨rfl,h⟩ v hv;simp at hv;subst hv;exact h.one
 keep:=by rintro _ _ _ _ _ ⟨rfl,h⟩ hk;exact ⟨rfl,h.keep hk⟩
 lt:=by rintro _ _ _ _ ⟨rfl,h⟩;exact h.lt
section
variable {P:Program} {w w0 w':World} {α β γ:Type} [Rep α] [Rep β] {e lo hi:Nat} {v:Value} {l:List α} {F:List Nat}
instance:RepZ (RV α e):=⟨⟨.slice none 0 0,[]⟩,[.slice none 0 0],fun _=>⟨rfl,.inl ⟨none,rfl,rfl,rfl⟩⟩⟩
end
end Go.Sh
namespace Go.Sh
open Rep (rep)
structure Raw where
 v:Value
instance:Rep Raw where
 size:=1
 agg:=false
 rep F _ cs x:=F=[]∧cs=[x.v]∧x.v.oneCell'=true
 pos:=by decide
 sz _:=rfl
 len:=by rintro _ _ _ _ ⟨_,rfl,_⟩;rfl
 one:=by rintro _ _ _ _ ⟨_,rfl,h⟩ v hv;simp at hv;subst hv;exact h
 keep:=by rintro _ _ _ _ _ h _;exact h
 lt:=by rintro _ _ _ _ ⟨rfl,_⟩ b hb;cases hb
section
variable {P:Program} {w w0 w' w1:World} {α β γ:Type} [Rep α] [Rep β] {e lo hi:Nat} {v:Value} {F G S:List Nat} {b o g:Nat}
theorem VarI.mono {lo' hi':Nat} {x:α} (h:VarI lo hi w g x) (h1:lo'≤lo) (h2:hi≤hi'):VarI lo' hi' w g x:=by
 obtain ⟨F,h,hF⟩:=h;exact ⟨F,h,fun b hb=>by have:=hF b hb;omega⟩
theorem zkL {t ty:TypeId} {by_:Nat} {u:Value} {x:β} {l:List β} {GX:List Nat} {K:World→Value→World→Prop} {C:Value→World→Prop} (ht:P.underlying t=some (.slice e)) (he:tyI P e=some (Rep.size β,by_,Rep.agg β)) (hz:zbq P e=true)
   (hzc:(P.info? e).map (fun i=>(i.zero.map (·.cells.size)))=some (some (Rep.size β))) (hsz:Rep.size β≤1000) (hv:RowG G e w v l) (hn:G.Nodup) (hx:Mine GX w u x) (hd:∀ c∈GX,c∉G) (hm:l.length+1≤maxLen) (hb:(l.length+1)*by_≤140737488355328)
   (k:∀ w1 v' w' G',Ext w w1→Chg G w1 w'→RowG G' e w' v' (l++[x])→G'.Nodup→(∀ c∈G',c∈G∨c∈GX∨w.heap.size≤c)→K w1 v' w')
   (hC:∀ s w1,Ext w w1→OP P (Builtin.append_ #[t,t] ty [v,s].toArray) w1 (K w1)→C s w1):OP P (Instr.buildSlice t 1 #[(0,u)]) w C:=by
 refine zeW ht he hz hsz hx fun w1 hx1 hm1=>?_
 obtain ⟨⟨cs,⟨a,cap,Fi,xs,rfl,h1,h2,hc,h4⟩,hveq⟩,hn1,hw1⟩:=hm1
 simp only [mkv,Rep.agg,cond_false,List.headD_cons,Value.slice.injEq,List.length_cons,List.length_nil] at hveq
 obtain ⟨rfl,_,rfl⟩:=hveq
 rcases h4 with ⟨h4,_⟩ | ⟨b,o,hab,hFe,hra,hbl⟩
 · simp at h4
 simp only [List.cons.injEq] at hFe
 obtain ⟨_,rfl⟩:=hFe
 refine hC _ w1 hx1 ?_
 have key:∀ (v:Value) (F:List Nat),RowF F e w v l→F.Nodup→(∀ c∈F,c∈G)→OP P (Builtin.append_ #[t,t] ty [v,.slice (some ⟨w.heap.size,0,none⟩) 1 1].toArray) w1 (K w1):=by
   intro v F hF hFn hFG
   have hF1:=hF.ext hx1
   have hdd:(GX++F).Nodup:=by
     rw [List.nodup_append]
     exact ⟨hx.nodup,hFn,fun p hp q hq e=>hd p hp (hFG _ (e▸hq))⟩
   refine zeR (m:=[x]) ht he hzc hF1 hFn rfl hc (.inr ⟨b,o,hab,hra⟩) (hw1.sub (by simp +contextual)) hdd (by simpa using hm) (by simpa using hb) fun v' w' F' hch hfull hr' hn' hs'=>?_
   have hown:∀ c∈v.ownBlock.toList,c∈G:=fun c hc=>by
     obtain ⟨xs,Fi,_,_,rfl,_⟩:=hF
     exact hFG c (by simp only [List.mem_append];exact .inl hc)
   refine k w1 v' w' F' hx1 (hch.mono hown) (.inr hr') hn' fun c hc=>?_
   rcases hs' c hc with h | h | h
   · exact .inl (hFG c h)
   · exact .inr (.inl h)
   exact .inr (.inr (Nat.le_trans hx1.size h))
 rcases hv with ⟨a0,rfl,rfl,rfl⟩ | hF
 · have kn:=key (.slice none 0 0) [] (zf9 e w) List.nodup_nil (by simp)
   cases a0 with
   | none=>exact kn
   | some x0=>
     simp only [Option.some.injEq,Addr.mk.injEq] at hab
     obtain ⟨rfl,rfl,_⟩:=hab
     exact zhJ (zex (α:=β) (n:=1) ht he hzc (by simpa using Cells.len hc) hra (by omega) (by rw [zam];omega) (by simpa using hb)) kn
 exact key v G hF hn (fun _ h=>h)
theorem zbB [Flat β] {t:TypeId} {by_:Nat} {u:Value} {x:β} {K:Value→World→Prop} (ht:P.underlying t=some (.slice e)) (he:tyI P e=some (Rep.size β,by_,Rep.agg β)) (hz:zbq P e=true) (hsz:Rep.size β≤1000) (hx:Mine [] w u x)
   (k:∀ v w',Ext w w'→RowI w.heap.size w'.heap.size e w' v [x]→K v w'):OP P (Instr.buildSlice t 1 #[(0,u)]) w K:=by
 obtain ⟨⟨cs,hr,rfl⟩,hn,hw⟩:=hx
 have hcl:=zdO hr
 have hlen:=Rep.len hr
 have hvs:(mkv β cs).cells.size=Rep.size β:=by rw [←Array.length_toList,hcl,hlen]
 obtain ⟨i,d,hi,hd,hs,hby,hg⟩:=zca he
 unfold zbq at hz
 rw [hi] at hz
 obtain ⟨z,hz⟩:=Option.isSome_iff_exists.1 hz
 have hpos:=Rep.pos (α:=β)
 refine ⟨_,w.alloc (.cells (mkv β cs).cells e),?_,k (.slice (some ⟨w.heap.size,0,none⟩) 1 1) _ (zay w _) (.inr ⟨[w.heap.size],⟨cs,[],⟨by simp [hlen],.inr ⟨w.heap.size,1,(mkv β cs).cells,rfl,Nat.zero_le _,heap_alloc_new w _,Nat.le_refl _,by rw [zam];omega,by rw [hvs,Nat.one_mul],?_⟩⟩,Cells.single (zbC hr (zay w _)),rfl,Wr.nil _⟩,by simp,?_⟩)⟩
 · have hne:¬Rep.size β=0:=by omega
   have h24:¬2^24<Rep.size β:=by omega
   simp only [Instr.buildSlice,Sem.run_bind,run_underlying ht,Result.andThen_ok,zaN he,Nat.one_mul]
   simp [h24,hne,zeroValue,typeInfo,hi,hz,zkF _ _ _ hvs,newRow]
 · rw [hcl,List.length_singleton,Nat.one_mul,List.take_of_length_le (by omega)]
 intro b hb
 simp only [List.mem_cons,List.not_mem_nil,or_false] at hb
 subst hb
 exact ⟨Nat.le_refl _,(Array.getElem?_eq_some_iff.1 (heap_alloc_new w _)).1⟩
end
end Go.Sh
namespace Go.Proofs.YtifonhplnmpgaaaGreat
open Go Go.Sh Go.Proofs
open Rep (rep)
def F84 (a0 a1:Value) (w:World) (R:VW):Prop:=
 oP (Instr.makeSlice 118 a0 a0) w fun x11 w=>
 rN 62 3 a1 w fun x13=>
 LOOPI [14] [(iV 0)] w fun u3 w next3=>
 rC (u3 14) x13 w fun x15=>
 BR x15
 (rX 62 a1 (u3 14) w fun x16=>
 rL 106 x16 w fun x17=>
 oP (Instr.alloc 106 true (.tuple #[])) w fun x7 w=>
 oS 106 x7 x17 w fun w=>
 (fun w=>rF 106 x7 0 w fun x19=>
 rL 3 x19 w fun x20=>
 rX 118 x11 x20 w fun x21=>
 rL 120 x21 w fun x22=>
 rF 106 x7 1 w fun x23=>
 rL 3 x23 w fun x24=>
 rD (convert 3 121 x24) w fun x25=>
 rB .shl 120 U0 T0 (Value.int .u64 1) x25 w fun x26=>
 rB .or 120 T0 T0 x22 x26 w fun x27=>
 rX 118 x11 x20 w fun x28=>
 oS 120 x28 x27 w fun w=>
 rA (u3 14) (iV 1) w fun x29=>
 next3 [x29] w) (World.drew1 w))
 (rN 118 3 x11 w fun x31=>
 LOOPI [32] [(iV 0)] w fun u8 w next8=>
 rC (u8 32) x31 w fun x33=>
 BR x33
 (rN 118 3 x11 w fun x36=>
 LOOPI [37] [(iV 0)] w fun u11 w next11=>
 rC (u11 37) x36 w fun x38=>
 BR x38
 (rX 118 x11 (u11 37) w fun x42=>
 rL 120 x42 w fun x43=>
 rD (convert 3 121 (u8 32)) w fun x45=>
 rB .shr 120 T0 T0 x43 x45 w fun x46=>
 rB .and 120 T0 U0 x46 (Value.int .u64 1) w fun x47=>
 rB .eql 120 T0 U0 x47 (Value.int .u64 1) w fun x48=>
 BR x48
 ((fun w=>rX 118 x11 (u11 37) w fun x51=>
 rL 120 x51 w fun x52=>
 rX 118 x11 (u8 32) w fun x55=>
 rL 120 x55 w fun x56=>
 rB .or 120 T0 T0 x52 x56 w fun x57=>
 rX 118 x11 (u11 37) w fun x58=>
 oS 120 x58 x57 w fun w=>
 rA (u11 37) (iV 1) w fun x59=>
 next11 [x59] w) (World.drew1 w))
 (rA (u11 37) (iV 1) w fun x59=>
 next11 [x59] w))
 (rA (u8 32) (iV 1) w fun x60=>
 next8 [x60] w))
 (R x11 w))
def cfg84:Cfg:=⟨extL,[],[(3,1073725568,[14]),(8,2305843004918727424,[32]),(11,1152921367167894016,[37])],[(5,[0,1,2,3,4,5,6,7,8,9,10,11],0),(14,[0,1,2,3,4,5,6,7,8,9,10],0)],[],[],[]⟩
theorem F84_call {a0 a1:Value} {w:World} {R:VW} (h:F84 a0 a1 w R):cL 84 [a0,a1] w R:=co (g:=cfg84) Tryz.func84 (by kernel_rfl) (by kernel_rfl) (by kernel_rfl) h
open Rep (rep)
theorem zq9:zcj Tryz.prog 120=some [.int .u64 0]:=by kernel_rfl
structure RU (w0 w:World) (v:Value) (l:List Nat):Prop where
 ext:Ext w0 w
 own:Own w0.heap.size w v l
section
variable {w0 w w':World} {v:Value} {l:List Nat} {i m n:Nat}
theorem RU.step (h:RU w0 w v l) (hx:Ext w w'):RU w0 w' v l:=⟨h.ext.trans hx,h.own.ext hx⟩
theorem RU.get {K:Value→Prop} (h:RU w0 w v l) (hi:i<l.length) (k:K (.int .u64 (l[i]:Int))) :
   RD Tryz.prog (Instr.indexAt 118 v (.int .i64 (i:Int))) w fun a=>RD Tryz.prog (Instr.loadAt 120 a) w K:=
 zac zpZ zjQ h.own.is hi fun b o hA=>zkH zjQ hA (Ext.refl _) k
theorem zhQ {w1:World} {K:Value→Prop} (h:Is w1 v l) (hx:Ext w1 w) (hi:i<l.length) (k:K (.int .u64 (l[i]:Int))) :
   RD Tryz.prog (Instr.indexAt 118 v (.int .i64 (i:Int))) w fun a=>RD Tryz.prog (Instr.loadAt 120 a) w K:=
 zac zpZ zjQ h hi fun b o hA=>zkH zjQ hA hx k
theorem RU.set {K:World→Prop} (h:RU w0 w v l) (hi:i<l.length) (hm:m<18446744073709551616) (k:∀ w',RU w0 w' v (l.set i m)→K w') :
   RD Tryz.prog (Instr.indexAt 118 v (.int .i64 (i:Int))) w fun a=>OPU Tryz.prog (Instr.storeAt 120 a (.int .u64 (m:Int))) w K:=by
 obtain ⟨F,hM,hF⟩:=h.own
 refine zcd zpZ zjQ hM hi fun b o G hL=>?_
 refine zcu (upd:=fun y=>l.set i y) (y':=m) zjQ hL (znQ hm) fun w2 F2 hc2 hm2 hF2=>?_
 exact k w2 ⟨h.ext.chg_trans hc2 hF,F2,hm2,fun b hb=>hF b (hF2 b hb)⟩
theorem znU {K:Value→World→Prop} (hn:n≤60) (k:∀ v w',RU w w' v (List.replicate n 0)→K v w'):OP Tryz.prog (Instr.makeSlice 118 (.int .i64 (n:Int)) (.int .i64 (n:Int))) w K:=
 zeb (α:=Nat) zpZ zjQ rfl rfl zq9 (by omega) (by omega) fun w2 hx2 hr2=>k _ w2 ⟨hx2,hr2.own.own⟩
end
theorem zlO {m i:Nat}:(((m >>> i &&& 1:Nat):Int)=1)↔m.testBit i=true:=by
 have:=zmg m i
 constructor
 · intro h;rw [←this,decide_eq_true_eq];exact h
 intro h;rw [←this,decide_eq_true_eq] at h;exact h
theorem zha {w W1:World} {v1:Value} {n:Nat} {A:List DArc} (h1:Is W1 v1 A) (e1:Ext W1 w) (hn:n≤60) (hA:∀ a∈A,(0≤a.fr∧a.fr<n)∧0≤a.to∧a.to<n) (hl:A.length≤2000) :
   CALL Tryz.prog 84 [.int .i64 (n:Int),v1] w fun r w'=>Ext w w'∧Own w.heap.size w' r (zgd (nxA n A) n):=by
 refine F84_call ?_
 unfold F84
 refine znU hn fun vr w1 hR1=>?_
 refine zae u62 h1 ?_
 refine zaq A.length (fun k us w'=>us=[.int .i64 (k:Int)]∧k≤A.length∧RU w w' vr (zcl (nxA n (A.take k)) n 0 0)) 0 (Nat.zero_le _) ⟨rfl,Nat.zero_le _,by rw [List.take_zero,←zmj];exact hR1⟩ ?_
 rintro k mk u w2 hkm ⟨hu,hkl,hR2⟩
 simp only [List.map_cons,List.map_nil,List.cons.injEq,and_true] at hu
 rw [hu]
 refine zah ?_
 refine br (fun hlt=>?_) (fun hge=>?_)
 · have hk:k<A.length:=by omega
   refine zac u62 zcx h1 hk fun b3 o3 hA3=>?_
   refine zab zcx hA3 (e1.trans hR2.ext) fun v17 h17=>?_
   refine zct znN rfl zcx rfl h17 (e1.trans hR2.ext) fun w3 hx3 hAt3 hV3=>?_
   have hxd:=zan w3
   generalize World.drew1 w3=w4 at *
   have hR4:=(hR2.step hx3).step hxd
   obtain ⟨⟨hf0,hf1⟩,ht0,ht1⟩:=hA _ (List.getElem_mem hk)
   obtain ⟨i,hi⟩:∃ i:Nat,A[k].fr=(i:Int):=⟨A[k].fr.toNat,by omega⟩
   obtain ⟨j,hj⟩:∃ j:Nat,A[k].to=(j:Int):=⟨A[k].to.toNat,by omega⟩
   refine zaa zf6 ?_
   refine zad ty3 (zdQ hAt3) hxd fun _=>?_
   rw [hi]
   refine hR4.get (by rw [zbP];omega) ?_
   refine zaa zf7 ?_
   refine zad ty3 (zdR hAt3) hxd fun _=>?_
   rw [hj]
   refine zbD (by kernel_rfl) zik (by omega) ?_
   refine zjU (by omega) ?_
   have hj60:2^j<4611686018427387904:=Nat.lt_of_le_of_lt (Nat.pow_le_pow_right (n:=2) (by omega) (show j≤60 by omega)) (by decide)
   refine zkI (by rw [zcf];exact zcy hn) hj60 ?_
   have hb:(zcl (nxA n (A.take k)) n 0 0)[i]'(by rw [zbP];omega) ||| 2^j<2^62:=Nat.or_lt_two_pow (by rw [zcf];exact zcy hn) hj60
   refine hR4.set (by rw [zbP];omega) (by omega) fun w5 hR5=>?_
   rw [zll hi hj (by omega) (by omega)] at hR5
   refine zaf (by omega) ?_
   refine ⟨mk-1,by omega,k+1,by omega,rfl,by omega,?_⟩
   rw [List.take_succ_eq_append_getElem hk]
   exact hR5
 have hke:k=A.length:=by omega
 rw [hke,List.take_length] at hR2
 refine zae zpZ hR2.own.is ?_
 rw [zbP]
 refine zaq n (fun m us w'=>us=[.int .i64 (m:Int)]∧m≤n∧RU w w' vr (zcl (nxA n A) n m 0)) 0 (Nat.zero_le _) ⟨rfl,Nat.zero_le _,hR2⟩ ?_
 rintro m mm q3 w3 hmm ⟨hu3,hml,hR3⟩
 simp only [List.map_cons,List.map_nil,List.cons.injEq,and_true] at hu3
 rw [hu3]
 refine zah ?_
 refine br (fun hlt3=>?_) (fun hge3=>?_)
 case refine_2=>
   have hme:m=n:=by omega
   rw [hme,zmi zoP] at hR3
   exact ⟨hR3.ext,hR3.own⟩
 have hm:m<n:=by omega
 refine zae zpZ hR3.own.is ?_
 rw [zbP]
 refine zaq n (fun k us w'=>us=[.int .i64 (k:Int)]∧k≤n∧RU w w' vr (zcl (nxA n A) n m k)) 0 (Nat.zero_le _) ⟨rfl,Nat.zero_le _,hR3⟩ ?_
 rintro i mi q4 w4 hmi ⟨hu4,hil,hR4⟩
 simp only [List.map_cons,List.map_nil,List.cons.injEq,and_true] at hu4
 rw [hu4]
 refine zah ?_
 refine br (fun hlt4=>?_) (fun hge4=>?_)
 case refine_2=>
   have hie:i=n:=by omega
   rw [hie,zli] at hR4
   refine zaf (by omega) ?_
   exact ⟨mm-1,by omega,m+1,by omega,rfl,by omega,hR4⟩
 have hi:i<n:=by omega
 refine hR4.get (by rw [zbP];omega) ?_
 refine zbD (by kernel_rfl) zik (by omega) ?_
 refine zfm (by rw [zcf];exact zcy hn) ?_
 have h62:zbF (FW (nxA n A) m i) n<4611686018427387904:=zcy hn
 have hgi:(zcl (nxA n A) n m i)[i]'(by rw [zbP];omega)=zbF (FW (nxA n A) m i) n:=by rw [zcf,if_neg (by omega)]
 have hgm:(zcl (nxA n A) n m i)[m]'(by rw [zbP];omega)=zbF (FW (nxA n A) m m) n:=zlh _
 refine zfl (n:=1) (Nat.lt_of_le_of_lt (by rw [Nat.shiftRight_eq_div_pow];exact Nat.div_le_self _ _) (show _<_ by rw [hgi];exact h62)) (by omega) ?_
 refine zao ?_
 refine br (fun hb=>?_) (fun hb=>?_)
 · have hFW:FW (nxA n A) m i m:=by
     rw [zlO,hgi,zaA] at hb;exact hb.2
   have hxd:=zan w4
   generalize World.drew1 w4=w5 at *
   have hR5:=hR4.step hxd
   refine hR5.get (by rw [zbP];omega) ?_
   refine hR5.get (by rw [zbP];omega) ?_
   refine zkI (by rw [hgi];exact h62) (by rw [hgm];exact zcy hn) ?_
   rw [hgi,hgm,zqI hFW]
   refine hR5.set (by rw [zbP];omega) (zpn hn) fun w6 hR6=>?_
   rw [zlj _ rfl hi] at hR6
   refine zaf (by omega) ?_
   exact ⟨mi-1,by omega,i+1,by omega,rfl,by omega,hR6⟩
 have hFW:¬FW (nxA n A) m i m:=fun h=>hb (by rw [zlO,hgi,zaA];exact ⟨hm,h⟩)
 rw [zlk hFW] at hR4
 refine zaf (by omega) ?_
 exact ⟨mi-1,by omega,i+1,by omega,rfl,by omega,hR4⟩
def F44 (a0 a1:Value) (w:World) (R:VW):Prop:=
 cL 84 [a0,a1] w fun x16 w=>
 LOOPI [6,7] [(Value.slice none 0 0),(Value.int .u64 0)] w fun u4 w next4=>
 JOIN [8,9] (fun J19=>
 LOOPI [8,9,10] [(iV (-1)),(Value.int .u64 0),(iV 0)] w fun u7 w next7=>
 rC (u7 10) a0 w fun x19=>
 BR x19
 (rB .lss 3 T0 U0 (u7 8) (iV 0) w fun x22=>
 BR x22
 (rD (convert 3 121 (u7 10)) w fun x28=>
 rB .shr 120 T0 T0 (u4 7) x28 w fun x29=>
 rB .and 120 T0 U0 x29 (Value.int .u64 1) w fun x30=>
 rB .eql 120 T0 U0 x30 (Value.int .u64 1) w fun x31=>
 BR x31
 (rA (u7 10) (iV 1) w fun x25=>
 next7 [(u7 8),(u7 9),x25] w)
 (rD (convert 3 121 (u7 10)) w fun x33=>
 rB .shl 120 U0 T0 (Value.int .u64 1) x33 w fun x34=>
 LOOPI [9,36] [x34,(iV 0)] w fun u12 w next12=>
 rC (u12 36) a0 w fun x37=>
 BR x37
 (rX 118 x16 (u7 10) w fun x41=>
 rL 120 x41 w fun x42=>
 rD (convert 3 121 (u12 36)) w fun x44=>
 rB .shr 120 T0 T0 x42 x44 w fun x45=>
 rB .and 120 T0 U0 x45 (Value.int .u64 1) w fun x46=>
 rB .eql 120 T0 U0 x46 (Value.int .u64 1) w fun x47=>
 BR x47
 (rX 118 x16 (u12 36) w fun x51=>
 rL 120 x51 w fun x52=>
 rD (convert 3 121 (u7 10)) w fun x54=>
 rB .shr 120 T0 T0 x52 x54 w fun x55=>
 rB .and 120 T0 U0 x55 (Value.int .u64 1) w fun x56=>
 rB .eql 120 T0 U0 x56 (Value.int .u64 1) w fun x57=>
 BR x57
 (rD (convert 3 121 (u12 36)) w fun x61=>
 rB .shl 120 U0 T0 (Value.int .u64 1) x61 w fun x62=>
 rB .or 120 T0 T0 (u12 9) x62 w fun x63=>
 rA (u12 36) (iV 1) w fun x64=>
 next12 [x63,x64] w)
 (rA (u12 36) (iV 1) w fun x64=>
 next12 [(u12 9),x64] w))
 (rA (u12 36) (iV 1) w fun x64=>
 next12 [(u12 9),x64] w))
 (rX 118 x16 (u7 10) w fun x67=>
 rL 120 x67 w fun x68=>
 rB .andNot 120 T0 T0 x68 (u12 9) w fun x70=>
 rB .andNot 120 T0 T0 x70 (u4 7) w fun x72=>
 rB .eql 120 T0 U0 x72 (Value.int .u64 0) w fun x73=>
 BR x73
 (rA (u7 10) (iV 1) w fun x25=>
 next7 [(u7 10),(u12 9),x25] w)
 (rA (u7 10) (iV 1) w fun x25=>
 next7 [(u7 8),(u12 9),x25] w))))
 (J19 [(u7 8),(u7 9)] w))
 (J19 [(u7 8),(u7 9)] w)) (fun u19 w=>
 rB .lss 3 T0 U0 (u19 8) (iV 0) w fun x76=>
 BR x76
 (R (u4 6) w)
 (LOOPI [12,79] [(Value.slice none 0 0),(iV 0)] w fun u23 w next23=>
 rC (u23 79) a0 w fun x80=>
 BR x80
 (rD (convert 3 121 (u23 79)) w fun x84=>
 rB .shr 120 T0 T0 (u19 9) x84 w fun x85=>
 rB .and 120 T0 U0 x85 (Value.int .u64 1) w fun x86=>
 rB .eql 120 T0 U0 x86 (Value.int .u64 1) w fun x87=>
 BR x87
 (oP (Instr.buildSlice 23 1 #[(0,(u23 79))]) w fun x90 w=>
 oP (Builtin.append_ #[23,23] 23 [(u23 12),x90].toArray) w fun x91 w=>
 rA (u23 79) (iV 1) w fun x92=>
 next23 [x91,x92] w)
 (rA (u23 79) (iV 1) w fun x92=>
 next23 [(u23 12),x92] w))
 (oP (Instr.buildSlice 39 1 #[(0,(u23 12))]) w fun x95 w=>
 oP (Builtin.append_ #[39,39] 39 [(u4 6),x95].toArray) w fun x96 w=>
 rB .or 120 T0 T0 (u4 7) (u19 9) w fun x99=>
 next4 [x96,x99] w)))
def cfg44:Cfg:=⟨extL,[(19,37778931862957161582336,[8,9])],[(4,1267650600228229401496703090640,[6,7]),(7,37778931862957161582336,[8,9,10]),(12,36893488078699629056,[9,36]),(23,9902915851373234884605652992,[12,79])],[],[],[],[]⟩
theorem F44_call {a0 a1:Value} {w:World} {R:VW} (h:F44 a0 a1 w R):cL 44 [a0,a1] w R:=co (g:=cfg44) Tryz.func44 (by kernel_rfl) (by kernel_rfl) (by kernel_rfl) h
open Rep (rep)
theorem ziE (m i:Nat):m >>> i≤m:=by rw [Nat.shiftRight_eq_div_pow];exact Nat.div_le_self _ _
theorem zge {w W1:World} {v1:Value} {n:Nat} {A:List DArc} (h1:Is W1 v1 A) (e1:Ext W1 w) (hn:n≤60) (hA:∀ a∈A,(0≤a.fr∧a.fr<n)∧0≤a.to∧a.to<n) (hl:A.length≤2000) :
   CALL Tryz.prog 44 [.int .i64 (n:Int),v1] w fun r w'=>Ext w w'∧Own w.heap.size w' r ((ziu n (RP (nxA n A))).map zaF):=by
 refine F44_call ?_
 unfold F44
 refine (zha h1 e1 hn hA hl).mono ?_
 rintro v16 w1 ⟨hx1,ho1⟩
 have hWay:=ho1.is
 have hWl:(zgd (nxA n A) n).length=n:=ziB
 have hWg:∀ i (h:i<(zgd (nxA n A) n).length),(zgd (nxA n A) n)[i]=zbF (RP (nxA n A) i) n:=fun i h=>ziC h
 generalize zgd (nxA n A) n=ws at *
 generalize RP (nxA n A)=way at *
 have hs1:=hx1.size
 refine zaq n (fun k us w'=>∃ out f told L,us=[out,.int .u64 ((zbF told n:Nat):Int)]∧f+k=n∧zcZ n told≤f∧ziu n way=L++zcN n way f told∧L.length=k∧Ext w1 w'∧∃ lo hi,w1.heap.size≤lo∧lo≤w'.heap.size∧hi≤w'.heap.size∧RowI lo hi 23 w' out (L.map zaF)) 0 (Nat.zero_le _) ⟨_,n,fun _=>False,[],by rw [←zmh];rfl,rfl,zhC,rfl,rfl,Ext.refl _,w1.heap.size,w1.heap.size,Nat.le_refl _,Nat.le_refl _,Nat.le_refl _,zdy _ _ _ _⟩ ?_
 rintro k mk u w2 hkm ⟨out,f,told,L,hu,hfk,hlf,hcL,hLl,hx2,lo,hi,hlo,hlo2,hhi,hr2⟩
 obtain ⟨hu1,hu2⟩:=zcO hu
 rw [hu1,hu2]
 have hD62:zbF told n<4611686018427387904:=zcy hn
 refine JOIN.mk (fun us w'=>w'=w2∧((zdG n way told=none∧∃ p,us=[.int .i64 (-1),.int .u64 p])∨∃ i:Nat,zdG n way told=some i∧us=[.int .i64 (i:Int),.int .u64 ((zbF (zbh way i) n:Nat):Int)])) ?_ ?_
 · refine zaq n (fun i us w'=>w'=w2∧i≤n∧∃ fd p,us=[.int .i64 fd,.int .u64 p,.int .i64 (i:Int)]∧((fd=-1∧∀ j,j<i→¬OkC n way told j)∨∃ i0:Nat,fd=(i0:Int)∧OkC n way told i0∧(∀ j,j<i0→¬OkC n way told j)∧p=((zbF (zbh way i0) n:Nat):Int))) 0 (Nat.zero_le _) ⟨rfl,Nat.zero_le _,-1,0,rfl,.inl ⟨rfl,fun j hj=>by omega⟩⟩ ?_
   rintro i mi q7 w3 hmi ⟨rfl,hil,fd,p,hu7,hcase⟩
   obtain ⟨hu71,hu72,hu73⟩:=zqP hu7
   rw [hu71,hu72,hu73]
   refine zah ?_
   refine br (fun hlt=>?_) (fun hge=>?_)
   case refine_2=>
     have hie:i=n:=by omega
     refine ⟨rfl,?_⟩
     rcases hcase with ⟨rfl,hno⟩ | ⟨i0,rfl,hok,hmin,rfl⟩
     · exact .inl ⟨zd9.2 fun j hj=>hno j (by have:=hj.1;omega) hj,_,rfl⟩
     exact .inr ⟨i0,zff hok hmin,rfl⟩
   have hi':i<n:=by omega
   refine zah ?_
   refine br (fun hfd=>?_) (fun hfd=>?_)
   case refine_2=>
     refine ⟨rfl,?_⟩
     rcases hcase with ⟨rfl,hno⟩ | ⟨i0,rfl,hok,hmin,rfl⟩
     · exact absurd (by decide) hfd
     exact .inr ⟨i0,zff hok hmin,rfl⟩
   have hno:fd=-1∧∀ j,j<i→¬OkC n way told j:=by
     rcases hcase with h | ⟨i0,rfl,_⟩
     · exact h
     omega
   obtain ⟨rfl,hno⟩:=hno
   refine zbD (by kernel_rfl) zik (by omega) ?_
   refine zfm hD62 ?_
   refine zfl (n:=1) (Nat.lt_of_le_of_lt (ziE _ _) hD62) (by omega) ?_
   refine zao ?_
   refine br (fun hb=>?_) (fun hb=>?_)
   · rw [zlO,zaA] at hb
     refine zaf (by omega) ?_
     refine ⟨mi-1,by omega,i+1,by omega,rfl,by omega,-1,p,rfl,.inl ⟨rfl,fun j hj=>?_⟩⟩
     rcases Nat.lt_or_eq_of_le (Nat.lt_succ_iff.1 hj) with h | rfl
     · exact hno j h
     exact fun h=>h.2.1 hb.2
   have htd:¬told i:=fun h=>hb (by rw [zlO,zaA];exact ⟨hi',h⟩)
   refine zbD (by kernel_rfl) zik (by omega) ?_
   refine zjU (by omega) ?_
   rw [zlm (way:=way) hi']
   refine zaq n (fun j us w'=>w'=w3∧j≤n∧us=[.int .u64 ((zbF (zgX way i j) n:Nat):Int),.int .i64 (j:Int)]) 0 (Nat.zero_le _) ⟨rfl,Nat.zero_le _,rfl⟩ ?_
   rintro j mj q12 w4 hmj ⟨rfl,hjl,hu12⟩
   obtain ⟨hu121,hu122⟩:=zcO hu12
   rw [hu121,hu122]
   have hP62:∀ j,zbF (zgX way i j) n<4611686018427387904:=fun j=>zcy hn
   have hW62:∀ j,zbF (way j) n<4611686018427387904:=fun j=>zcy hn
   refine zah ?_
   refine br (fun hlt2=>?_) (fun hge2=>?_)
   · have hj:j<n:=by omega
     refine zhQ (i:=i) hWay hx2 (by omega) ?_
     rw [hWg]
     refine zbD (by kernel_rfl) zik (by omega) ?_
     refine zfm (hW62 _) ?_
     refine zfl (n:=1) (Nat.lt_of_le_of_lt (ziE _ _) (hW62 _)) (by omega) ?_
     refine zao ?_
     refine br (fun hb1=>?_) (fun hb1=>?_)
     · rw [zlO,zaA] at hb1
       refine zhQ (i:=j) hWay hx2 (by omega) ?_
       rw [hWg]
       refine zbD (by kernel_rfl) zik (by omega) ?_
       refine zfm (hW62 _) ?_
       refine zfl (n:=1) (Nat.lt_of_le_of_lt (ziE _ _) (hW62 _)) (by omega) ?_
       refine zao ?_
       refine br (fun hb2=>?_) (fun hb2=>?_)
       · rw [zlO,zaA] at hb2
         refine zbD (by kernel_rfl) zik (by omega) ?_
         refine zjU (by omega) ?_
         refine zkI (hP62 _) (Nat.lt_of_le_of_lt (Nat.pow_le_pow_right (n:=2) (by omega) (show j≤60 by omega)) (by decide)) ?_
         rw [zmk hj hb1.2 hb2.2]
         refine zaf (by omega) ?_
         exact ⟨mj-1,by omega,j+1,by omega,rfl,by omega,rfl⟩
       rw [zkK (n:=n) (j:=j) fun h=>hb2 (by rw [zlO,zaA];exact ⟨hi',h.2⟩)]
       refine zaf (by omega) ?_
       exact ⟨mj-1,by omega,j+1,by omega,rfl,by omega,rfl⟩
     rw [zkK (n:=n) (j:=j) fun h=>hb1 (by rw [zlO,zaA];exact ⟨hj,h.1⟩)]
     refine zaf (by omega) ?_
     exact ⟨mj-1,by omega,j+1,by omega,rfl,by omega,rfl⟩
   have hje:j=n:=by omega
   rw [hje,zml]
   refine zhQ (i:=i) hWay hx2 (by omega) ?_
   rw [hWg]
   refine zg9 (hW62 _) (zcy hn) ?_
   refine zg9 (Nat.lt_of_le_of_lt (zgb _ _) (hW62 _)) hD62 ?_
   refine zao ?_
   have hokb:=znS (way:=way) hi' htd
   refine br (fun hb=>?_) (fun hb=>?_)
   · have hok:OkC n way told i:=hokb.1 (by omega)
     refine zaf (by omega) ?_
     exact ⟨mi-1,by omega,i+1,by omega,rfl,by omega,_,_,rfl,.inr ⟨i,rfl,hok,hno,rfl⟩⟩
   have hok:¬OkC n way told i:=fun h=>hb (by rw [hokb.2 h];rfl)
   refine zaf (by omega) ?_
   refine ⟨mi-1,by omega,i+1,by omega,rfl,by omega,-1,_,rfl,.inl ⟨rfl,fun j hj=>?_⟩⟩
   rcases Nat.lt_or_eq_of_le (Nat.lt_succ_iff.1 hj) with h | rfl
   · exact hno j h
   exact hok
 rintro q19 w3 ⟨rfl,hJ⟩
 rcases hJ with ⟨hnx,p,hu19⟩ | ⟨i,hnx,hu19⟩
 · obtain ⟨hu191,hu192⟩:=zcO hu19;clear hu19
   rw [hu191]
   refine zah ?_
   refine br (fun _=>?_) (fun h=>absurd (by decide) h)
   rw [zf3 hnx,List.append_nil] at hcL
   rw [hcL]
   exact ⟨hx1.trans hx2,hr2.own.own.mono (by omega)⟩
 obtain ⟨hu191,hu192⟩:=zcO hu19
 rw [hu191,hu192]
 refine zah ?_
 refine br (fun h=>by omega) (fun _=>?_)
 have hok:=zeU hnx
 obtain ⟨f',hcf,hlf',hff⟩:=zf4 hlf hnx
 refine zaq n (fun j us w'=>∃ lv,us=[lv,.int .i64 (j:Int)]∧j≤n∧Ext w3 w'∧RowI w3.heap.size w'.heap.size 3 w' lv (zaF (zbw j (zbh way i)))) 0 (Nat.zero_le _) ⟨_,rfl,Nat.zero_le _,Ext.refl _,zdy _ _ _ _⟩ ?_
 rintro j mj q23 w4 hmj ⟨lv,hu23,hjl,hx4,hr4⟩
 obtain ⟨hu231,hu232⟩:=zcO hu23
 rw [hu231,hu232]
 have hs4:=hx4.size
 have hP62:zbF (zbh way i) n<4611686018427387904:=zcy hn
 have hsl:(zbw j (zbh way i)).length≤j:=zbU
 refine zah ?_
 refine br (fun hlt=>?_) (fun hge=>?_)
 · have hj:j<n:=by omega
   refine zbD (by kernel_rfl) zik (by omega) ?_
   refine zfm hP62 ?_
   refine zfl (n:=1) (Nat.lt_of_le_of_lt (ziE _ _) hP62) (by omega) ?_
   refine zao ?_
   refine br (fun hb=>?_) (fun hb=>?_)
   · rw [zlO,zaA] at hb
     refine zcP (lo2:=w4.heap.size) (hi2:=w4.heap.size) (x:=(j:Int)) u23 ty3 z3 zc3 (by decide) hr4 hs4 (ownI_int (by unfold I64;omega)) (Nat.le_refl _) hs4 (by rw [zam,zag];omega) (by rw [zag];omega) fun v54 w9 hc9 hr9=>?_
     refine zaf (by omega) ?_
     refine ⟨mj-1,by omega,j+1,by omega,v54,rfl,by omega,hx4.chgI hc9 (Nat.le_refl _),?_⟩
     rw [zcE hb.2,zbK]
     exact hr9
   refine zaf (by omega) ?_
   refine ⟨mj-1,by omega,j+1,by omega,lv,rfl,by omega,hx4,?_⟩
   rw [zde fun h=>hb (by rw [zlO,zaA];exact ⟨hj,h⟩)]
   exact hr4
 have hje:j=n:=by omega
 rw [hje] at hr4
 refine zcP (lo2:=w3.heap.size) (hi2:=w4.heap.size) (x:=zaF (zbw n (zbh way i))) u39 zbv z23 zqw (by decide) (hr2.ext hx4) (by omega) hr4.own hhi (by omega) (by rw [zam,List.length_map];omega) (by rw [List.length_map];omega) fun v54 w9 hc9 hr9=>?_
 refine zkI hD62 hP62 ?_
 rw [zpp (n:=n) hok.1]
 have hs9:=hc9.size
 refine ⟨mk-1,by omega,k+1,by omega,v54,f',zeT way told i,L++[zbw n (zbh way i)],rfl,by omega,hlf',by rw [hcL,hcf,List.append_assoc];rfl,by simp [hLl],(hx2.trans hx4).chgI hc9 hlo,lo,w9.heap.size,hlo,by omega,Nat.le_refl _,?_⟩
 rw [List.map_append]
 exact hr9
section
variable {nx:Nat→List Nat} {n m i j k t:Nat} {A:List DArc} {p q:Nat→Prop}
noncomputable def zbs (nx:Nat→List Nat) (n m k j:Nat):List (List Bool):=(List.range n).map fun i=>zb0 n fun x=>FW nx (if i<k∨(i=k∧x<j) then m+1 else m) i x
theorem ziF:(zbs nx n m k j).length=n:=by simp [zbs]
theorem zbt (h:i<(zbs nx n m k j).length):(zbs nx n m k j)[i]=zb0 n fun x=>FW nx (if i<k∨(i=k∧x<j) then m+1 else m) i x:=by simp [zbs]
theorem zkM (h:i<(zbs nx n m k j).length) {x:Nat} (hx:x<((zbs nx n m k j)[i]).length):((zbs nx n m k j)[i])[x]=true↔FW nx (if i<k∨(i=k∧x<j) then m+1 else m) i x:=by
 rw [←za5 hx,zbt,zbl]
 rw [zbt,zas] at hx
 exact ⟨fun h=>h.2,fun h=>⟨hx,h⟩⟩
theorem zhR:FW nx 0 i j↔j∈nx i:=.rfl
theorem znV:FW nx (m+1) k m↔FW nx m k m:=⟨FW.old,.inl⟩
theorem znW:FW nx (m+1) m j↔FW nx m m j:=⟨FW.old',.inl⟩
theorem zmm:zbs nx n m k n=zbs nx n m (k+1) 0:=List.map_congr_left fun i _=>zaT fun x hx=>by
 have:(i<k∨(i=k∧x<n))↔(i<k+1∨(i=k+1∧x<0)):=by omega
 simp only [this]
theorem zln:zbs nx n m n 0=zbs nx n (m+1) 0 0:=List.map_congr_left fun i hi=>zaT fun x hx=>by
 have hi:=List.mem_range.1 hi
 rw [if_pos (.inl hi),if_neg (by omega)]
theorem zlo (h:¬FW nx m k m):zbs nx n m k 0=zbs nx n m (k+1) 0:=List.map_congr_left fun i hi=>zaT fun x hx=>by
 by_cases h3:i<k
 · rw [if_pos (.inl h3),if_pos (by omega)]
 rw [if_neg (by omega)]
 by_cases h4:i=k
 · subst h4
   rw [if_pos (by omega)]
   exact ⟨.inl,fun h'=>h'.elim id fun h'=>absurd h'.1 h⟩
 rw [if_neg (by omega)]
theorem znX (h:¬FW nx m m j):zbs nx n m k j=zbs nx n m k (j+1):=List.map_congr_left fun i hi=>zaT fun x hx=>by
 by_cases h1:i<k∨(i=k∧x<j)
 · rw [if_pos h1,if_pos (by omega)]
 rw [if_neg h1]
 by_cases h2:i=k∧x=j
 · obtain ⟨rfl,rfl⟩:=h2
   rw [if_pos (by omega)]
   exact ⟨.inl,fun h'=>h'.elim id fun h'=>absurd h'.2 h⟩
 rw [if_neg (by omega)]
theorem zhS {p:Nat→Prop} (hj:j<n):(zb0 n p).set j true=zb0 n fun x=>p x∨x=j:=by
 refine zbr (by rw [List.length_set,zas]) fun i hi=>?_
 rw [zbE (by rw [zas];exact hj),zbl]
 exact ⟨fun h=>h.elim (fun h=>.inl h.2) .inr,fun h=>h.elim (fun h=>.inl ⟨hi,h⟩) .inr⟩
theorem zmn (hk:k<n) (hj:j<n) (h1:FW nx m k m) (h2:FW nx m m j) (h:k<(zbs nx n m k j).length) :
   (zbs nx n m k j).set k ((zbs nx n m k j)[k].set j true)=zbs nx n m k (j+1):=by
 refine List.ext_getElem (by simp [zbs]) fun i h3 h4=>?_
 rw [List.getElem_set]
 by_cases hi:k=i
 · subst hi
   rw [if_pos rfl,zbt,zbt,zhS hj]
   refine zaT fun x hx=>?_
   by_cases hxj:x=j
   · subst hxj
     have e1:(if k<k∨(k=k∧x<x+1) then m+1 else m)=m+1:=if_pos (.inr ⟨rfl,by omega⟩)
     rw [e1]
     exact ⟨fun _=>.inr ⟨h1,h2⟩,fun _=>.inr rfl⟩
   by_cases hl:x<j
   · rw [if_pos (.inr ⟨rfl,hl⟩),if_pos (.inr ⟨rfl,by omega⟩)]
     exact ⟨fun h=>h.elim id fun h=>absurd h hxj,.inl⟩
   rw [if_neg (by omega),if_neg (by omega)]
   exact ⟨fun h=>h.elim id fun h=>absurd h hxj,.inl⟩
 rw [if_neg hi,zbt,zbt]
 refine zaT fun x hx=>?_
 by_cases h5:i<k∨(i=k∧x<j)
 · rw [if_pos h5,if_pos (by omega)]
 rw [if_neg h5,if_neg (by omega)]
noncomputable def zdA (nx:Nat→List Nat) (n:Nat):List (List Bool):=(List.range n).map fun i=>zb0 n (RP nx i)
theorem ziG:(zdA nx n).length=n:=by simp [zdA]
theorem zeX (h:i<(zdA nx n).length):(zdA nx n)[i]=zb0 n (RP nx i):=by simp [zdA]
theorem zkN (h:i<(zdA nx n).length) {x:Nat} (hx:x<((zdA nx n)[i]).length):((zdA nx n)[i])[x]=true↔RP nx i x:=by
 rw [←za5 hx,zeX,zbl]
 rw [zeX,zas] at hx
 exact ⟨fun h=>h.2,fun h=>⟨hx,h⟩⟩
theorem zmo (hn:∀ i j,j∈nx i→i<n∧j<n):zbs nx n n 0 0=zdA nx n:=List.map_congr_left fun i hi=>zaT fun x hx=>by
 rw [if_neg (by omega)]
 exact FW.iff hn
theorem znY:nxA n []=fun _=>[]:=by
 funext i
 unfold nxA zbw
 rw [List.filter_eq_nil_iff]
 intro j _ h
 simp at h
theorem ziH {a:DArc} (hf:a.fr=(i:Int)) (ht:a.to=(k:Int)) (hi:i<n) (hk:k<n) {x y:Nat}:y∈nxA n (A++[a]) x↔y∈nxA n A x∨(x=i∧y=k):=by
 unfold nxA
 simp only [za1,List.mem_append,List.mem_singleton,DArc.ext_iff,hf,ht]
 constructor
 · rintro ⟨h1,h2,h3 | ⟨h3,h4⟩⟩
   · exact .inl ⟨h1,h2,h3⟩
   exact .inr ⟨Int.ofNat_inj.1 h3,Int.ofNat_inj.1 h4⟩
 rintro (⟨h1,h2,h3⟩ | ⟨rfl,rfl⟩)
 · exact ⟨h1,h2,.inl h3⟩
 exact ⟨hk,hi,.inr ⟨rfl,rfl⟩⟩
theorem zlp:List.replicate n (List.replicate n false)=zbs (nxA n []) n 0 0 0:=by
 refine List.ext_getElem (by simp [zbs]) fun i h1 h2=>?_
 rw [zbt,List.getElem_replicate]
 refine zbr (by simp) fun j _=>?_
 rw [if_neg (by omega),znY]
 simp [FW,zbk]
theorem zjV {a:DArc} (hf:a.fr=(i:Int)) (ht:a.to=(k:Int)) (hi:i<n) (hk:k<n) (h:i<(zbs (nxA n A) n 0 0 0).length) :
   (zbs (nxA n A) n 0 0 0).set i ((zbs (nxA n A) n 0 0 0)[i].set k true)=zbs (nxA n (A++[a])) n 0 0 0:=by
 refine List.ext_getElem (by simp [zbs]) fun x h1 h2=>?_
 rw [List.getElem_set]
 by_cases hx:i=x
 · subst hx
   rw [if_pos rfl,zbt,zbt,zhS hk]
   refine zaT fun j _=>?_
   rw [if_neg (by omega)]
   rw [zhR,zhR,ziH hf ht hi hk]
   exact ⟨fun h=>h.elim .inl fun h=>.inr ⟨rfl,h⟩,fun h=>h.elim .inl fun h=>.inr h.2⟩
 rw [if_neg hx,zbt,zbt]
 refine zaT fun j _=>?_
 rw [if_neg (by omega)]
 rw [zhR,zhR,ziH hf ht hi hk]
 exact ⟨.inl,fun h=>h.elim id fun h=>absurd h.1.symm hx⟩
end
section
variable {n i j f:Nat} {way:Nat→Nat→Prop} {told:Nat→Prop}
def OkK (way:Nat→Nat→Prop) (told:Nat→Prop) (i j:Nat):Prop:=¬told i∧∀ x,x<j→way i x→way x i∨told x
theorem zmp (hi:i<n):OkK way told i n↔OkC n way told i:=⟨fun h=>⟨hi,h⟩,fun h=>h.2⟩
theorem znZ:OkK way told i (j+1)↔OkK way told i j∧(way i j→way j i∨told j):=by
 constructor
 · rintro ⟨h1,h2⟩;exact ⟨⟨h1,fun x hx=>h2 x (by omega)⟩,h2 j (by omega)⟩
 rintro ⟨⟨h1,h2⟩,h3⟩
 refine ⟨h1,fun x hx=>?_⟩
 rcases Nat.lt_or_eq_of_le (Nat.lt_succ_iff.1 hx) with h | rfl
 · exact h2 x h
 exact h3
def zgf (way:Nat→Nat→Prop) (told:Nat→Prop) (i j x:Nat):Prop:=told x∨(x<j∧zbh way i x)
theorem zlq:zb0 n told=zb0 n (zgf way told i 0):=zaT fun x _=>⟨.inl,fun h=>h.elim id fun h=>by omega⟩
theorem zmq:zb0 n (zgf way told i n)=zb0 n (zeT way told i):=zaT fun x hx=>⟨fun h=>h.elim .inl fun h=>.inr h.2,fun h=>h.elim .inl fun h=>.inr ⟨hx,h⟩⟩
theorem ziI (hj:j<n) (h:zbh way i j):(zb0 n (zgf way told i j)).set j true=zb0 n (zgf way told i (j+1)):=by
 rw [zhS hj]
 refine zaT fun x _=>?_
 unfold zgf
 constructor
 · rintro ((h1 | h1) | rfl)
   · exact .inl h1
   · exact .inr ⟨by omega,h1.2⟩
   exact .inr ⟨by omega,h⟩
 rintro (h1 | ⟨h1,h2⟩)
 · exact .inl (.inl h1)
 rcases Nat.lt_or_eq_of_le (Nat.lt_succ_iff.1 h1) with h3 | h3
 · exact .inl (.inr ⟨h3,h2⟩)
 exact .inr h3
theorem zn0 (h:¬zbh way i j):zb0 n (zgf way told i j)=zb0 n (zgf way told i (j+1)):=by
 refine zaT fun x _=>?_
 unfold zgf
 constructor
 · rintro (h1 | h1)
   · exact .inl h1
   exact .inr ⟨by omega,h1.2⟩
 rintro (h1 | ⟨h1,h2⟩)
 · exact .inl h1
 rcases Nat.lt_or_eq_of_le (Nat.lt_succ_iff.1 h1) with h3 | h3
 · exact .inr ⟨h3,h2⟩
 subst h3;exact absurd h2 h
end
def F74 (a0 a1:Value) (w:World) (R:VW):Prop:=
 oP (Instr.buildSlice 99 0 #[]) w fun x11 w=>
 LOOPI [5,6] [x11,(iV 0)] w fun u3 w next3=>
 rC (u3 6) a0 w fun x14=>
 BR x14
 (oP (Instr.makeSlice 101 a0 a0) w fun x19 w=>
 oP (Instr.buildSlice 99 1 #[(0,x19)]) w fun x20 w=>
 oP (Builtin.append_ #[99,99] 99 [(u3 5),x20].toArray) w fun x21 w=>
 rA (u3 6) (iV 1) w fun x16=>
 next3 [x21,x16] w)
 (LOOPI [7] [(iV 0)] w fun u7 w next7=>
 rN 62 3 a1 w fun x24=>
 rC (u7 7) x24 w fun x25=>
 BR x25
 ((fun w=>rX 62 a1 (u7 7) w fun x31=>
 rF 106 x31 0 w fun x32=>
 rL 3 x32 w fun x33=>
 rX 99 (u3 5) x33 w fun x34=>
 rL 101 x34 w fun x35=>
 rX 62 a1 (u7 7) w fun x38=>
 rF 106 x38 1 w fun x39=>
 rL 3 x39 w fun x40=>
 rX 101 x35 x40 w fun x41=>
 oS 4 x41 (Value.bool true) w fun w=>
 rA (u7 7) (iV 1) w fun x27=>
 next7 [x27] w) (World.drew1 w))
 (LOOPI [8] [(iV 0)] w fun u11 w next11=>
 rC (u11 8) a0 w fun x44=>
 BR x44
 (LOOPI [9] [(iV 0)] w fun u14 w next14=>
 rC (u14 9) a0 w fun x49=>
 BR x49
 (LOOPI [10] [(iV 0)] w fun u17 w next17=>
 rC (u17 10) a0 w fun x54=>
 BR x54
 (rX 99 (u3 5) (u14 9) w fun x58=>
 rL 101 x58 w fun x59=>
 rX 101 x59 (u11 8) w fun x61=>
 rL 4 x61 w fun x62=>
 BR x62
 (rX 99 (u3 5) (u11 8) w fun x68=>
 rL 101 x68 w fun x69=>
 rX 101 x69 (u17 10) w fun x71=>
 rL 4 x71 w fun x72=>
 BR x72
 (rX 99 (u3 5) (u14 9) w fun x75=>
 rL 101 x75 w fun x76=>
 rX 101 x76 (u17 10) w fun x78=>
 oS 4 x78 (Value.bool true) w fun w=>
 rA (u17 10) (iV 1) w fun x65=>
 next17 [x65] w)
 (rA (u17 10) (iV 1) w fun x65=>
 next17 [x65] w))
 (rA (u14 9) (iV 1) w fun x51=>
 next14 [x51] w))
 (rA (u14 9) (iV 1) w fun x51=>
 next14 [x51] w))
 (rA (u11 8) (iV 1) w fun x46=>
 next11 [x46] w))
 (R (u3 5) w)))
def cfg74:Cfg:=⟨extL,[],[(3,4190304,[5,6]),(7,4398042316928,[7]),(11,604462909802916540843776,[8]),(14,604462909666577098999296,[9]),(17,604462905303714959983616,[10])],[(9,[0,1,2,3,4,5,6,7,8,9,10,11,12,13,14],0)],[],[],[]⟩
theorem F74_call {a0 a1:Value} {w:World} {R:VW} (h:F74 a0 a1 w R):cL 74 [a0,a1] w R:=co (g:=cfg74) Tryz.func74 (by kernel_rfl) (by kernel_rfl) (by kernel_rfl) h
open Rep (rep)
theorem zqX:zcj Tryz.prog 4=some [.bool false]:=by kernel_rfl
structure RB (w0 w:World) (v:Value) (l:List (List Bool)):Prop where
 ext:Ext w0 w
 own:Own w0.heap.size w v l
section
variable {w0 w w' w1:World} {v:Value} {l:List (List Bool)} {i j m n:Nat}
theorem RB.step (h:RB w0 w v l) (hx:Ext w w'):RB w0 w' v l:=⟨h.ext.trans hx,h.own.ext hx⟩
theorem zfn {K:Value→Prop} (h:Is w1 v l) (hx:Ext w1 w) (hi:i<l.length) (hj:j<l[i].length) (k:K (.bool l[i][j])) :
   RD Tryz.prog (Instr.indexAt 99 v (.int .i64 (i:Int))) w fun a=>RD Tryz.prog (Instr.loadAt 101 a) w fun b=>RD Tryz.prog (Instr.indexAt 101 b (.int .i64 (j:Int))) w fun c=>RD Tryz.prog (Instr.loadAt 4 c) w K:=
 zac u99 zck h hi fun b o hA=>zab zck hA hx fun v2 h2=>zac zdi ty4 h2 hj fun b2 o2 hA2=>zaX ty4 hA2 hx k
theorem RB.set {K:World→Prop} (h:RB w0 w v l) (hi:i<l.length) (hj:j<l[i].length) (k:∀ w',RB w0 w' v (l.set i (l[i].set j true))→K w') :
   RD Tryz.prog (Instr.indexAt 99 v (.int .i64 (i:Int))) w fun a=>RD Tryz.prog (Instr.loadAt 101 a) w fun b=>RD Tryz.prog (Instr.indexAt 101 b (.int .i64 (j:Int))) w fun c=>OPU Tryz.prog (Instr.storeAt 4 c (.bool true)) w K:=by
 obtain ⟨F,hM,hF⟩:=h.own
 refine zcd u99 zck hM hi fun b o G hL=>?_
 refine zdz zck hL fun b3 hM3 hG3 hb3=>?_
 refine zcd zdi ty4 hM3 hj fun b4 o4 G4 hL4=>?_
 refine zcu (upd:=fun y=>l[i].set j y) (y':=true) ty4 hL4 zga fun w2 F2 hc2 hm2 hF2=>?_
 obtain ⟨F5,hm5,hF5⟩:=hb3 w2 F2 _ hc2 hm2 fun c hc=>.inl (hF2 c hc)
 refine k w2 ⟨h.ext.chg_trans (hc2.mono hG3) hF,F5,hm5,fun c hc=>?_⟩
 rcases hF5 c hc with h6 | h6
 · exact hF c h6
 exact hF c (hG3 c (hF2 c h6))
end
theorem zgg {w W1:World} {v1:Value} {n:Nat} {A:List DArc} (h1:Is W1 v1 A) (e1:Ext W1 w) (hn:n≤60) (hA:∀ a∈A,(0≤a.fr∧a.fr<n)∧0≤a.to∧a.to<n) (hl:A.length≤2000) :
   CALL Tryz.prog 74 [.int .i64 (n:Int),v1] w fun r w'=>Ext w w'∧Own w.heap.size w' r (zdA (nxA n A) n):=by
 refine F74_call ?_
 unfold F74
 refine zbA (α:=List Bool) u99 zck fun a8 w1 hx1 hr1=>?_
 refine zaq n (fun k us w'=>∃ out,us=[out,.int .i64 (k:Int)]∧k≤n∧Ext w w'∧RowI w.heap.size w'.heap.size 101 w' out (List.replicate k (List.replicate n false))) 0 (Nat.zero_le _) ⟨_,rfl,Nat.zero_le _,hx1,zcc _ _ _ _ _⟩ ?_
 rintro k mk q w2 hkm ⟨out,hq,hkl,hx2,hr2⟩
 obtain ⟨hq1,hq2⟩:=zcO hq;clear hq
 rw [hq1,hq2]
 have hs2:=hx2.size
 refine zah ?_
 refine br (fun hlt=>?_) (fun hge=>?_)
 · refine zeb (α:=Bool) zdi ty4 rfl rfl zqX (by omega) (by omega) fun w3 hx3 hr3=>?_
   have hs3:=hx3.size
   refine zcP (x:=List.replicate n false) u99 zck zq6 zqF (by decide) (hr2.ext hx3) (by omega) hr3.own (Nat.le_refl _) (by omega) (by rw [zam,List.length_replicate];omega) (by rw [List.length_replicate];omega) fun v54 w9 hc9 hr9=>?_
   refine zaf (by omega) ?_
   refine ⟨mk-1,by omega,k+1,by omega,v54,rfl,by omega,(hx2.trans hx3).chgI hc9 (Nat.le_refl _),?_⟩
   rw [List.replicate_succ']
   exact hr9
 have hke:k=n:=by omega
 rw [hke,zlp] at hr2
 have hR2:RB w w2 out (zbs (nxA n []) n 0 0 0):=⟨hx2,hr2.own.own⟩
 clear hr2
 refine zaq A.length (fun k us w'=>us=[.int .i64 (k:Int)]∧k≤A.length∧RB w w' out (zbs (nxA n (A.take k)) n 0 0 0)) 0 (Nat.zero_le _) ⟨rfl,Nat.zero_le _,by rw [List.take_zero];exact hR2⟩ ?_
 rintro k mk q w3 hkm ⟨hq,hkl,hR3⟩
 simp only [List.map_cons,List.map_nil,List.cons.injEq,and_true] at hq
 rw [hq]
 refine zae u62 h1 ?_
 refine zah ?_
 refine br (fun hlt=>?_) (fun hge=>?_)
 · have hk:k<A.length:=by omega
   have hxd:=zan w3
   generalize World.drew1 w3=w4 at *
   have hR4:=hR3.step hxd
   obtain ⟨⟨hf0,hf1⟩,ht0,ht1⟩:=hA _ (List.getElem_mem hk)
   obtain ⟨i,hi⟩:∃ i:Nat,A[k].fr=(i:Int):=⟨A[k].fr.toNat,by omega⟩
   obtain ⟨j,hj⟩:∃ j:Nat,A[k].to=(j:Int):=⟨A[k].to.toNat,by omega⟩
   refine zac u62 zcx h1 hk fun b3 o3 hA3=>?_
   refine zaa zf6 ?_
   refine zad ty3 (zdQ hA3) (e1.trans hR4.ext) fun _=>?_
   rw [hi]
   obtain ⟨F,hM,hF⟩:=hR4.own
   have hil:i<(zbs (nxA n (A.take k)) n 0 0 0).length:=by rw [ziF];omega
   refine zcd u99 zck hM hil fun b o G hL=>?_
   refine zdz zck hL fun b5 hM5 hG5 hb5=>?_
   refine zac u62 zcx h1 hk fun b6 o6 hA6=>?_
   refine zaa zf7 ?_
   refine zad ty3 (zdR hA6) (e1.trans hR4.ext) fun _=>?_
   rw [hj]
   refine zcd zdi ty4 hM5 (k:=j) (by rw [zbt,zas];omega) fun b7 o7 G7 hL7=>?_
   refine zcu (upd:=fun y=>(zbs (nxA n (A.take k)) n 0 0 0)[i].set j y) (y':=true) ty4 hL7 zga fun w5 F5 hc5 hm5 hF5=>?_
   obtain ⟨F6,hm6,hF6⟩:=hb5 w5 F5 _ hc5 hm5 fun c hc=>.inl (hF5 c hc)
   have hR6:RB w w5 out ((zbs (nxA n (A.take k)) n 0 0 0).set i ((zbs (nxA n (A.take k)) n 0 0 0)[i].set j true)):=⟨hR4.ext.chg_trans (hc5.mono hG5) hF,F6,hm6,fun c hc=>by
     rcases hF6 c hc with h6 | h6
     · exact hF c h6
     exact hF c (hG5 c (hF5 c h6))⟩
   rw [zjV hi hj (by omega) (by omega)] at hR6
   refine zaf (by omega) ?_
   refine ⟨mk-1,by omega,k+1,by omega,rfl,by omega,?_⟩
   rw [List.take_succ_eq_append_getElem hk]
   exact hR6
 have hke:k=A.length:=by omega
 rw [hke,List.take_length] at hR3
 refine zaq n (fun m us w'=>us=[.int .i64 (m:Int)]∧m≤n∧RB w w' out (zbs (nxA n A) n m 0 0)) 0 (Nat.zero_le _) ⟨rfl,Nat.zero_le _,hR3⟩ ?_
 rintro m mm q3 w4 hmm ⟨hq3,hml,hR4⟩
 simp only [List.map_cons,List.map_nil,List.cons.injEq,and_true] at hq3
 rw [hq3]
 refine zah ?_
 refine br (fun hlt3=>?_) (fun hge3=>?_)
 case refine_2=>
   have hme:m=n:=by omega
   rw [hme,zmo zoP] at hR4
   exact ⟨hR4.ext,hR4.own⟩
 have hm:m<n:=by omega
 refine zaq n (fun k us w'=>us=[.int .i64 (k:Int)]∧k≤n∧RB w w' out (zbs (nxA n A) n m k 0)) 0 (Nat.zero_le _) ⟨rfl,Nat.zero_le _,hR4⟩ ?_
 rintro i mi q4 w5 hmi ⟨hq4,hil,hR5⟩
 simp only [List.map_cons,List.map_nil,List.cons.injEq,and_true] at hq4
 rw [hq4]
 refine zah ?_
 refine br (fun hlt4=>?_) (fun hge4=>?_)
 case refine_2=>
   have hie:i=n:=by omega
   rw [hie,zln] at hR5
   refine zaf (by omega) ?_
   exact ⟨mm-1,by omega,m+1,by omega,rfl,by omega,hR5⟩
 have hi:i<n:=by omega
 refine zaq n (fun j us w'=>us=[.int .i64 (j:Int)]∧j≤n∧(0<j→FW (nxA n A) m i m)∧RB w w' out (zbs (nxA n A) n m i j)) 0 (Nat.zero_le _) ⟨rfl,Nat.zero_le _,fun h=>absurd h (by omega),hR5⟩ ?_
 rintro j mj q5 w6 hmj ⟨hq5,hjl,hpos,hR6⟩
 simp only [List.map_cons,List.map_nil,List.cons.injEq,and_true] at hq5
 rw [hq5]
 refine zah ?_
 refine br (fun hlt5=>?_) (fun hge5=>?_)
 case refine_2=>
   have hje:j=n:=by omega
   rw [hje,zmm] at hR6
   refine zaf (by omega) ?_
   exact ⟨mi-1,by omega,i+1,by omega,rfl,by omega,hR6⟩
 have hj:j<n:=by omega
 have hL6:(zbs (nxA n A) n m i j).length=n:=ziF
 have hl6:∀ x (hx:x<(zbs (nxA n A) n m i j).length),((zbs (nxA n A) n m i j)[x]).length=n:=fun x hx=>by rw [zbt,zas]
 refine zfn (i:=i) (j:=m) hR6.own.is (Ext.refl _) (by omega) (by rw [hl6];omega) ?_
 have hat:=zkM (nx:=nxA n A) (n:=n) (m:=m) (k:=i) (j:=j) (i:=i) (by omega) (x:=m) (by rw [hl6];omega)
 have hfw:FW (nxA n A) (if i<i∨(i=i∧m<j) then m+1 else m) i m↔FW (nxA n A) m i m:=by
   split
   · exact znV
   exact .rfl
 rw [hfw] at hat
 refine zb8 (fun hb=>?_) (fun hb=>?_)
 case refine_2=>
   have hno:¬FW (nxA n A) m i m:=fun h=>by rw [hat.2 h] at hb;cases hb
   have hj0:j=0:=by
     rcases Nat.eq_zero_or_pos j with h | h
     · exact h
     exact absurd (hpos h) hno
   subst hj0
   rw [zlo hno] at hR6
   refine zaf (by omega) ?_
   exact ⟨mi-1,by omega,i+1,by omega,rfl,by omega,hR6⟩
 have hyes:=hat.1 hb
 refine zfn (i:=m) (j:=j) hR6.own.is (Ext.refl _) (by omega) (by rw [hl6];omega) ?_
 have hat2:=zkM (nx:=nxA n A) (n:=n) (m:=m) (k:=i) (j:=j) (i:=m) (by omega) (x:=j) (by rw [hl6];omega)
 have hfw2:FW (nxA n A) (if m<i∨(m=i∧j<j) then m+1 else m) m j↔FW (nxA n A) m m j:=by
   split
   · exact znW
   exact .rfl
 rw [hfw2] at hat2
 refine zb8 (fun hb2=>?_) (fun hb2=>?_)
 · have hy2:=hat2.1 hb2
   refine hR6.set (i:=i) (j:=j) (by omega) (by rw [hl6];omega) fun w7 hR7=>?_
   rw [zmn hi hj hyes hy2] at hR7
   refine zaf (by omega) ?_
   exact ⟨mj-1,by omega,j+1,by omega,rfl,by omega,fun _=>hyes,hR7⟩
 have hn2:¬FW (nxA n A) m m j:=fun h=>by rw [hat2.2 h] at hb2;cases hb2
 rw [znX hn2] at hR6
 refine zaf (by omega) ?_
 exact ⟨mj-1,by omega,j+1,by omega,rfl,by omega,fun _=>hyes,hR6⟩
theorem zhb {w:World} {v:Value} {x:DArc}:Is w v x↔v=.agg #[.int .i64 x.fr,.int .i64 x.to]∧I64 x.fr∧I64 x.to:=by
 constructor
 · rintro ⟨F,cs,⟨F1,F2,c1,c2,rfl,rfl,⟨rfl,rfl,h1⟩,⟨rfl,rfl,h2⟩⟩,rfl⟩
   exact ⟨rfl,h1,h2⟩
 rintro ⟨rfl,h1,h2⟩
 exact ⟨[],_,⟨[],[],[.int .i64 x.fr],[.int .i64 x.to],rfl,rfl,⟨rfl,rfl,h1⟩,⟨rfl,rfl,h2⟩⟩,rfl⟩
set_option maxRecDepth 20000 in
theorem zlr {w w0 w1:World} {K:Value→Prop} {x y:Operand} {v1 v2:Value} {a b:DArc} (h1:Is w0 v1 a) (h2:Is w1 v2 b) (k:K (.bool (decide (a=b)))):RD Tryz.prog (bin .eql 106 x y v1 v2) w K:=by
  obtain ⟨rfl,_⟩:=zhb.1 h1
  obtain ⟨rfl,_⟩:=zhb.1 h2
  refine zaQ (fun w' _=>?_) k
  have hg:Tryz.prog.eqGuardType Tryz.prog.depth 106=false:=by kernel_rfl
  have e0:∀ xs ys w,(eqGuard .eql 106 x y (.agg xs) (.agg ys)).run Tryz.prog w=.ok () w:=fun xs ys w=>run_eqGuard_agg (P:=Tryz.prog) w .eql 106 x y xs ys hg
  have e1:∀ xs ys w,(Op.equalIn 10000 106 (.agg xs) (.agg ys)).run Tryz.prog w=(Op.eqFields 9999 xs ys (Tryz.prog.fieldsOf 106).toList).run Tryz.prog w:=fun xs ys w=>run_equalIn_struct w 9999 106 xs ys (by kernel_rfl) (by kernel_rfl)
  have e2:(Tryz.prog.fieldsOf 106).toList.map (fun f=>(f.name,f.type,f.offset))=[("From", 3,0),("To", 3,1)]:=by kernel_rfl
  have e3:∀ (c d:Int) (w:World),(Op.equalIn 9999 3 (.int .i64 c) (.int .i64 d)).run Tryz.prog w=.ok (c == d) w:=fun c d w=>run_equalIn_int w 9998 3 .i64 .i64 c d u3
  have hd:(a=b)↔(a.fr=b.fr∧a.to=b.to):=DArc.ext_iff
  generalize hF:(Tryz.prog.fieldsOf 106).toList=fs at e1 e2
  match fs,e2 with
  | [f0,f1],e2=>
    simp only [List.map_cons,List.map_nil,List.cons.injEq,Prod.mk.injEq,and_true] at e2
    obtain ⟨⟨n0,t0,o0⟩,⟨n1,t1,o1⟩⟩:=e2
    have p0:∀ (a b:Value) (w:World),(part 3 #[a,b] 0).run Tryz.prog w=.ok a w:=fun a b w=>by simp [part,zcJ ty3]
    have p1:∀ (a b:Value) (w:World),(part 3 #[a,b] 1).run Tryz.prog w=.ok b w:=fun a b w=>by simp [part,zcJ ty3]
    simp only [bin,Sem.run_bind,e0,Result.andThen_ok,run_eql_struct,e1,Op.eqFields,n0,n1,t0,t1,o0,o1]
    simp only [ne_eq,String.reduceEq,not_false_eq_true,if_true,Sem.run_bind,p0,p1,Result.andThen_ok,e3,Sem.run_ite,Sem.run_pure,hd]
    by_cases x0:a.fr=b.fr<;>by_cases x1:a.to=b.to<;>simp [x0,x1]
set_option maxRecDepth 20000 in
theorem zls {w w0 w1:World} {K:Value→Prop} {x y:Operand} {v1 v2:Value} {a b:DArc} (h1:Is w0 v1 a) (h2:Is w1 v2 b) (k:K (.bool (decide (a≠b)))):RD Tryz.prog (bin .neq 106 x y v1 v2) w K:=by
  obtain ⟨rfl,_⟩:=zhb.1 h1
  obtain ⟨rfl,_⟩:=zhb.1 h2
  refine zaQ (fun w' _=>?_) k
  have hg:Tryz.prog.eqGuardType Tryz.prog.depth 106=false:=by kernel_rfl
  have e0:∀ xs ys w,(eqGuard .neq 106 x y (.agg xs) (.agg ys)).run Tryz.prog w=.ok () w:=fun xs ys w=>run_eqGuard_agg (P:=Tryz.prog) w .neq 106 x y xs ys hg
  have e1:∀ xs ys w,(Op.equalIn 10000 106 (.agg xs) (.agg ys)).run Tryz.prog w=(Op.eqFields 9999 xs ys (Tryz.prog.fieldsOf 106).toList).run Tryz.prog w:=fun xs ys w=>run_equalIn_struct w 9999 106 xs ys (by kernel_rfl) (by kernel_rfl)
  have e2:(Tryz.prog.fieldsOf 106).toList.map (fun f=>(f.name,f.type,f.offset))=[("From", 3,0),("To", 3,1)]:=by kernel_rfl
  have e3:∀ (c d:Int) (w:World),(Op.equalIn 9999 3 (.int .i64 c) (.int .i64 d)).run Tryz.prog w=.ok (c == d) w:=fun c d w=>run_equalIn_int w 9998 3 .i64 .i64 c d u3
  have hd:(a=b)↔(a.fr=b.fr∧a.to=b.to):=DArc.ext_iff
  generalize hF:(Tryz.prog.fieldsOf 106).toList=fs at e1 e2
  match fs,e2 with
  | [f0,f1],e2=>
    simp only [List.map_cons,List.map_nil,List.cons.injEq,Prod.mk.injEq,and_true] at e2
    obtain ⟨⟨n0,t0,o0⟩,⟨n1,t1,o1⟩⟩:=e2
    have p0:∀ (a b:Value) (w:World),(part 3 #[a,b] 0).run Tryz.prog w=.ok a w:=fun a b w=>by simp [part,zcJ ty3]
    have p1:∀ (a b:Value) (w:World),(part 3 #[a,b] 1).run Tryz.prog w=.ok b w:=fun a b w=>by simp [part,zcJ ty3]
    simp only [bin,Sem.run_bind,e0,Result.andThen_ok,run_neq_struct,e1,Op.eqFields,n0,n1,t0,t1,o0,o1]
    simp only [ne_eq,String.reduceEq,not_false_eq_true,if_true,Sem.run_bind,p0,p1,Result.andThen_ok,e3,Sem.run_ite,Sem.run_pure,ne_eq,hd]
    by_cases x0:a.fr=b.fr<;>by_cases x1:a.to=b.to<;>simp [x0,x1]
theorem zgY {l:List DArc} {k:Nat} {y:DArc} (hk:k<l.length) (h:y∉l.take k) (c:¬l[k]=y):y∉l.take (k+1):=by
 rw [List.take_succ_eq_append_getElem hk]
 simp only [List.mem_append,List.mem_cons,List.not_mem_nil,or_false,not_or]
 exact ⟨h,fun e=>c e.symm⟩
def F143 (a0 a1:Value) (w:World) (R:VW):Prop:=
 oP (Instr.box 106 a1) w fun x3 w=>
 rN 62 3 a0 w fun x7=>
 LOOPI [8] [(iV 0)] w fun u2 w next2=>
 rC (u2 8) x7 w fun x9=>
 BR x9
 ((fun w=>rL 106 x3 w fun x11=>
 rX 62 a0 (u2 8) w fun x14=>
 rL 106 x14 w fun x15=>
 rB .eql 106 T0 T0 x11 x15 w fun x16=>
 BR x16
 (R (u2 8) w)
 (rA (u2 8) (iV 1) w fun x18=>
 next2 [x18] w)) (World.drew1 w))
 (R (iV (-1)) w)
def cfg143:Cfg:=⟨extL,[],[(2,524080,[8])],[(4,[0,1,2,3,4,5],0)],[],[],[]⟩
theorem F143_call {a0 a1:Value} {w:World} {R:VW} (h:F143 a0 a1 w R):cL 143 [a0,a1] w R:=co (g:=cfg143) Tryz.func143 (by kernel_rfl) (by kernel_rfl) (by kernel_rfl) h
theorem zjW {w:World} {v0:Value} {W0:World} {l:(List DArc)} {v1:Value} {W1:World} {y:DArc}  (h0:Is W0 v0 l) (e0:Ext W0 w) (h1:Is W1 v1 y) (e1:Ext W1 w)  :
   CALL Tryz.prog 143 [v0,v1] w fun r w'=>Ext w w'∧(∃ n:Int,r=.int .i64 n∧(0≤n↔y∈l)):=by
 refine F143_call ?_
 unfold F143
 refine zax zcx rfl h1 e1 fun w1_ hx1_ hA3 hV3=>?_
 have hln7:=zai h0
 refine zae u62 h0 ?_
 refine zaq (l.length) (fun k us w'=>us=[.int .i64 (k:Int)]∧Ext w1_ w'∧(y∉l.take k)) (0) (by omega) ⟨by simp,Ext.refl w1_,by simp⟩ ?_
 rintro k m2 uu2 w2_ hk2 ⟨hu,hx2_,hinv⟩
 simp only [List.map_cons,List.map_nil,List.cons.injEq,and_true] at hu
 try rw [hu]
 try clear hu
 refine zah ?_
 refine br (fun c1=>?_) (fun c1=>?_)
 · have hx3_:=zan w2_
   refine zbd hV3 (hx2_.trans hx3_) ?_
   refine zac u62 zcx h0 (by omega) fun b14 o14 h14=>?_
   refine zab zcx h14 (e0.trans (hx1_.trans (hx2_.trans hx3_))) fun v15 h15=>?_
   refine zlr h1 h15 ?_
   refine br (fun c2=>?_) (fun c2=>?_)
   · refine ⟨(hx1_.trans (hx2_.trans hx3_)),?_⟩
     have:y∈l:=c2▸List.getElem_mem _
     exact ⟨_,rfl,by simp [this]⟩
   refine zaf (by omega) ?_
   refine ⟨m2-1,by omega,k+1,by omega,by simp,(hx2_.trans hx3_),?_⟩
   exact zgY (by omega) hinv (fun e=>c2 e.symm)
 refine ⟨(hx1_.trans hx2_),?_⟩
 rw [List.take_of_length_le (by omega)] at hinv
 exact ⟨-1,rfl,by simp [hinv]⟩
def F85 (a0 a1:Value) (w:World) (R:VW):Prop:=
 oP (Instr.box 106 a1) w fun x3 w=>
 rL 106 x3 w fun x6=>
 cL 143 [a0,x6] w fun x7 w=>
 rB .geq 3 T0 U0 x7 (iV 0) w fun x8=>
 R x8 w
def cfg85:Cfg:=⟨extL,[],[],[],[],[],[]⟩
theorem F85_call {a0 a1:Value} {w:World} {R:VW} (h:F85 a0 a1 w R):cL 85 [a0,a1] w R:=co (g:=cfg85) Tryz.func85 (by kernel_rfl) (by kernel_rfl) (by kernel_rfl) h
theorem zgZ {w:World} {v0:Value} {W0:World} {l:(List DArc)} {v1:Value} {W1:World} {y:DArc}  (h0:Is W0 v0 l) (e0:Ext W0 w) (h1:Is W1 v1 y) (e1:Ext W1 w)  :
   CALL Tryz.prog 85 [v0,v1] w fun r w'=>Ext w w'∧(r=.bool (decide (y∈l))):=by
 refine F85_call ?_
 unfold F85
 refine zax zcx rfl h1 e1 fun w1_ hx1_ hA3 hV3=>?_
 refine zbd hV3 (Ext.refl w1_) ?_
 refine (zjW h0 (e0.trans hx1_) h1 (e1.trans hx1_)).mono ?_
 rintro _ w2_ ⟨hx2_,n7,rfl,hn7⟩
 refine zbY ?_
 refine ⟨(hx1_.trans hx2_),?_⟩
 simp [hn7]
end Go.Proofs.YtifonhplnmpgaaaGreat
namespace Go.Sh
open Rep (rep)
def zcR (P:Program) (t:TypeId) (α:Type) [Rep α] (n:Nat):Prop:=
 ∀ (H:Type) (enc:TypeId×Value→H) (w:World) (spare:Nat→Bool) (held:Bool) (cs:List Value) (y:DataW H×List MemPlace),DataW.trod enc P w 0 spare held n t cs=some y→∃ F x,rep F w cs (x:α)
section
variable {P:Program} {t:TypeId}
theorem zdp (ht:P.underlying t=some (.int .i64)) (n:Nat):zcR P t Int n:=by
 intro H enc w spare held cs y h
 obtain ⟨m,rfl,_,hw⟩:=DataW.trod_int ht h
 refine ⟨[],m,rfl,rfl,?_⟩
 simpa [Lit.wf,IntKind.min,IntKind.max,IntKind.signed,IntKind.bits,I64] using hw
theorem ziJ (ht:P.underlying t=some .string) (n:Nat):zcR P t ByteArray n:=by
 intro H enc w spare held cs y h
 obtain ⟨s,rfl,_,hs⟩:=DataW.trod_string ht h
 exact ⟨[],s,rfl,rfl,hs⟩
theorem ziK {α β:Type} {f:α→Option β}:∀ {l:List α} {r:List β},l.mapM f=some r→l.length=r.length∧∀ (i:Nat) x,l[i]?=some x→∃ y,f x=some y∧r[i]?=some y
 | [],r,h=>by simp at h;subst h;simp
 | a :: l,r,h=>by
   simp only [List.mapM_cons,Option.pure_def,Option.bind_eq_bind,Option.bind_eq_some_iff,Option.some.injEq] at h
   obtain ⟨b,hb,bs,hbs,rfl⟩:=h
   obtain ⟨h1,h2⟩:=ziK hbs
   refine ⟨by simp [h1],fun i x hx=>?_⟩
   cases i with
   | zero=>simp at hx;subst hx;exact ⟨b,hb,by simp⟩
   | succ i=>obtain ⟨y,hy,hr⟩:=h2 i x (by simpa using hx);exact ⟨y,hy,by simpa using hr⟩
theorem zjX {w:World} {a:Addr} {n:Nat} {cs:List Value} (h:w.cells? 0 a n=some cs):cs.length=n∧∀ j v,cs[j]?=some v→w.cell? (a.add j)=some v:=by
 unfold World.cells? at h
 simp only [Nat.zero_le,if_true] at h
 obtain ⟨h1,h2⟩:=ziK h
 simp only [List.length_range] at h1
 refine ⟨h1.symm,fun j v hv=>?_⟩
 have hj:j<cs.length:=(List.getElem?_eq_some_iff.1 hv).1
 obtain ⟨y,hy,hr⟩:=h2 j j (by rw [List.getElem?_range (by omega)])
 rw [hr] at hv
 cases hv
 exact hy
theorem zmr {w:World} {a:Addr} {v:Value} (h:w.cell? a=some v):a.spot=none:=by
 unfold World.cell? at h
 split at h
 · split at h
   · cases h
   rename_i hs;simpa using hs
 cases h
theorem ziL {α:Type} [Rep α] {w:World} {b o:Nat}:∀ (n:Nat),(∀ i,i<n→∃ (cs:List Value) (F:List Nat) (x:α),w.rangeAt b (o+i*Rep.size α) cs∧rep F w cs x) →
   ∃ (F:List Nat) (xs:List Value) (l:List α),l.length=n∧Cells F w xs l∧w.rangeAt b o xs
 | 0,_=>⟨[],[],[],rfl,⟨rfl,rfl⟩,fun j v hv=>by simp at hv⟩
 | n+1,h=>by
   obtain ⟨F,xs,l,hl,hc,hr⟩:=ziL n fun i hi=>h i (by omega)
   obtain ⟨cs,G,x,hra,hx⟩:=h n (by omega)
   refine ⟨F++G,xs++cs,l++[x],by simp [hl],Cells.append hc (Cells.single hx),?_⟩
   intro j v hv
   have hlen:=Cells.len hc
   rw [hl] at hlen
   rcases Nat.lt_or_ge j xs.length with hj | hj
   · rw [List.getElem?_append_left hj] at hv;exact hr j v hv
   rw [List.getElem?_append_right hj] at hv
   have:=hra (j-xs.length) v hv
   rwa [show o+n*Rep.size α+(j-xs.length)=o+j by omega] at this
theorem zgh {e:TypeId} {α:Type} [Rep α] {n:Nat} (ht:P.underlying t=some (.slice e)) (hc:P.cellsOf e=Rep.size α) (he:zcR P e α n):zcR P t (List α) (n+1):=by
 intro H enc w spare held cs y h
 rcases DataW.trod_slice ht h with ⟨rfl,_⟩ | ⟨a,len,cap,elems,rest,m,hm,rfl,_,_,h1,h2,h3,h4,_⟩
 · exact ⟨[],[],none,0,[],[],rfl,Nat.le_refl _,Nat.zero_le _,⟨rfl,rfl⟩,.inl ⟨rfl,rfl⟩⟩
 obtain rfl:m=n:=by omega
 by_cases h0:len=0
 · subst h0
   exact ⟨[],[],some a,cap,[],[],rfl,Nat.zero_le _,h2,⟨rfl,rfl⟩,.inl ⟨rfl,rfl⟩⟩
 have key:∀ i,i<len→∃ (cs:List Value) (F:List Nat) (x:α),cs.length=Rep.size α∧(∀ j v,cs[j]?=some v→w.cell? ((a.add (i*P.cellsOf e)).add j)=some v)∧rep F w cs x:=by
   intro i hi
   have hy:=h4 i hi
   rw [List.getElem?_eq_getElem (by omega)] at hy
   obtain ⟨cs,hcs,hy⟩:=Option.bind_eq_some_iff.1 hy
   obtain ⟨F,x,hx⟩:=he H enc w spare held cs _ hy
   obtain ⟨hl,hcell⟩:=zjX hcs
   exact ⟨cs,F,x,by rw [hl,hc],hcell,hx⟩
 have hsp:a.spot=none:=by
   obtain ⟨cs,F,x,hl,hcell,_⟩:=key 0 (by omega)
   have hp:=Rep.pos (α:=α)
   have:=hcell 0 (cs[0]'(by omega)) (by rw [List.getElem?_eq_getElem])
   simpa [Addr.add] using zmr this
 obtain ⟨b,o,sp⟩:=a
 simp only at hsp
 subst hsp
 obtain ⟨F,xs,l,hl,hC,hR⟩:=ziL (α:=α) (w:=w) (b:=b) (o:=o) len fun i hi=>by
   obtain ⟨cs,F,x,_,hcell,hx⟩:=key i hi
   refine ⟨cs,F,x,fun j v hv=>?_,hx⟩
   have:=hcell j v hv
   rw [hc] at this
   rwa [Addr.add_mid,Addr.add_mid] at this
 have hb:b<w.heap.size:=zlc hR (by rw [Cells.len hC,hl];exact Nat.mul_pos (by omega) Rep.pos)
 subst hl
 exact ⟨b :: F,l,some ⟨b,o,none⟩,cap,F,xs,rfl,h1,h2,hC,.inr ⟨b,o,rfl,rfl,hR,hb⟩⟩
theorem ziM {α β:Type} [Rep β] {f:α→β} {g:β→α} (hg:∀ y,f (g y)=y) {n:Nat} (h:zcR P t β n):@zcR P t α (Rep.via f) n:=by
 intro H enc w spare held cs y hy
 obtain ⟨F,x,hx⟩:=h H enc w spare held cs y hy
 exact ⟨F,g x,show rep F w cs (f (g x)) by rw [hg];exact hx⟩
theorem zgi {cs:List Value} {o a b:Nat}:(cs.drop o).take (a+b)=(cs.drop o).take a++(cs.drop (o+a)).take b:=by
 rw [List.take_add,List.drop_drop]
inductive FldR (P:Program) (n:Nat):Nat→List Field→(α:Type)→Rep α→Prop
 | one {off:Nat} {f:Field} {α:Type} [i:Rep α] (h1:f.offset=off) (h2:P.cellsOf f.type=Rep.size α) (h3:zcR P f.type α n):FldR P n off [f] α i
 | cons {off:Nat} {f:Field} {fs:List Field} {α β:Type} [i:Rep α] [j:Rep β] (h1:f.offset=off) (h2:P.cellsOf f.type=Rep.size α) (h3:zcR P f.type α n) (h4:FldR P n (off+Rep.size α) fs β j):FldR P n off (f :: fs) (α×β) inferInstance
theorem zn1 {n:Nat} {H:Type} {enc:TypeId×Value→H} {w:World} {spare:Nat→Bool} {held:Bool} {cs:List Value} {off:Nat} {fs:List Field} {α:Type} {i:Rep α} (h:FldR P n off fs α i) :
   (∀ f∈fs,∃ y,DataW.trod enc P w 0 spare held n f.type ((cs.drop f.offset).take (P.cellsOf f.type))=some y)→cs.length=off+@Rep.size α i→∃ F x,@Rep.rep α i F w (cs.drop off) x:=by
 induction h with
 | @one off f α i h1 h2 h3=>
   intro hy hl
   obtain ⟨y,hf⟩:=hy f (by simp)
   subst h1
   rw [h2,List.take_of_length_le (by simp;omega)] at hf
   exact h3 _ _ _ _ _ _ _ hf
 | @cons off f fs α β i j h1 h2 h3 h4 ih=>
   intro hy hl
   obtain ⟨y,hf⟩:=hy f (by simp)
   have hl':cs.length=off+(Rep.size α+Rep.size β):=hl
   obtain ⟨F2,x2,hx2⟩:=ih (fun g hg=>hy g (by simp [hg])) (by omega)
   subst h1
   rw [h2] at hf
   obtain ⟨F1,x1,hx1⟩:=h3 _ _ _ _ _ _ _ hf
   refine ⟨F1++F2,(x1,x2),F1,F2,_,_,rfl,?_,hx1,hx2⟩
   have:=zgi (cs:=cs) (o:=f.offset) (a:=Rep.size α) (b:=Rep.size β)
   rw [List.take_of_length_le (by simp;omega),List.take_of_length_le (l:=cs.drop (f.offset+Rep.size α)) (by simp;omega)] at this
   exact this
theorem zfx {fs:Array Field} {α:Type} [i:Rep α] {n:Nat} (ht:P.underlying t=some (.struct fs)) (hc:P.cellsOf t=Rep.size α) (hf:FldR P n 0 fs.toList α i):zcR P t α (n+1):=by
 intro H enc w spare held cs y h
 obtain ⟨xs,m,hm,_,hlen,hxl,hx⟩:=DataW.trod_struct ht h
 obtain rfl:m=n:=by omega
 have:=zn1 (enc:=enc) (w:=w) (spare:=spare) (held:=held) (cs:=cs) hf (fun f hf=>by
   obtain ⟨k,hk,hkf⟩:=List.getElem_of_mem hf
   have h1:fs[k]?=some f:=by rw [←hkf];simp
   have h2:=hx k f h1
   have hk':k<xs.length:=by rw [hxl];simpa using hk
   rw [List.getElem?_eq_getElem hk'] at h2
   exact ⟨_,h2⟩) (by rw [hlen,hc];simp)
 simpa using this
theorem zed {α:Type} [Rep α]:zcR P t α 0:=by intro H enc w spare held cs y h;simp [DataW.trod] at h
theorem zcS {e:TypeId} {α:Type} [Rep α] (ht:P.underlying t=some (.slice e)) (hc:P.cellsOf e=Rep.size α) (he:∀ n,zcR P e α n):∀ n,zcR P t (List α) n
 | 0=>zed
 | n+1=>zgh ht hc (he n)
theorem zdE {fs:Array Field} {α:Type} [i:Rep α] (ht:P.underlying t=some (.struct fs)) (hc:P.cellsOf t=Rep.size α) (hf:∀ n,FldR P n 0 fs.toList α i):∀ n,zcR P t α n
 | 0=>zed
 | n+1=>zfx ht hc (hf n)
theorem ziN {fs:Array Field} {α:Type} [Rep α] {H:Type} {enc:TypeId×Value→H} {w W:World} {r:Reach} {b0:Nat} {spare:Nat→Bool} {held:Bool} {v:Value} {d:DataW H} {p:List MemPlace} (ht:P.underlying t=some (.struct fs)) (ha:Rep.agg α=true) (hr:∀ n,zcR P t α n) (hv:Value.okWide P W r b0 t v)
   (h:DataW.Trod enc P w 0 spare held t v d p):∃ x:α,Is w v x:=by
 simp only [Value.okWide,ht] at hv
 obtain ⟨cs,rfl,_⟩:=hv
 obtain ⟨n,hn⟩:=h
 obtain ⟨F,x,hx⟩:=hr n H enc w spare held _ _ hn
 exact ⟨x,F,_,hx,by simp [mkv,ha,Value.cells]⟩
end
end Go.Sh
namespace Go.Sh
open Rep (rep)
inductive DTerm where
 | mk (kind num:Int) (name:ByteArray) (kids:List DTerm)
namespace DTerm
def kind:DTerm→Int | .mk k _ _ _=>k
def num:DTerm→Int | .mk _ n _ _=>n
def name:DTerm→ByteArray | .mk _ _ s _=>s
def kids:DTerm→List DTerm | .mk _ _ _ l=>l
def tup (t:DTerm):Int×Int×ByteArray×List DTerm:=(t.kind,t.num,t.name,t.kids)
end DTerm
theorem DTerm.eta (t:DTerm):DTerm.mk t.kind t.num t.name t.kids=t:=by cases t;rfl
theorem DTerm.ext_iff {x y:DTerm}:x=y↔(x.kind=y.kind∧x.num=y.num∧x.name=y.name∧x.kids=y.kids):=by
 constructor
 · intro h;rw [h];exact ⟨rfl,rfl,rfl,rfl⟩
 rintro ⟨h1,h2,h3,h4⟩
 rw [←DTerm.eta x,←DTerm.eta y,h1,h2,h3,h4]
theorem DTerm.kid_lt {t k:DTerm} (h:k∈t.kids):SizeOf.sizeOf k<SizeOf.sizeOf t:=by
 cases t with
 | mk a b c l=>
   have:k∈l:=h
   have:=List.sizeOf_lt_of_mem this
   simp only [DTerm.mk.sizeOf_spec];omega
theorem DTerm.ind {p:DTerm→Prop} (h:∀ t,(∀ k∈t.kids,p k)→p t) (t:DTerm):p t:=
  h t fun k hk=>DTerm.ind h k
termination_by SizeOf.sizeOf t
decreasing_by exact DTerm.kid_lt hk
mutual
def DTerm.beq:DTerm→DTerm→Bool
  | .mk a b c l,.mk a' b' c' l'=>decide (a=a')&&decide (b=b')&&decide (c=c')&&DTerm.beqL l l'
def DTerm.beqL:List DTerm→List DTerm→Bool
  | [],[]=>true
  | x :: l,y :: m=>DTerm.beq x y&&DTerm.beqL l m
  | _,_=>false
end
mutual
theorem DTerm.beq_iff:∀ (x y:DTerm),DTerm.beq x y=true↔x=y
  | .mk a b c l,.mk a' b' c' l'=>by
    simp only [DTerm.beq,Bool.and_eq_true,decide_eq_true_eq,DTerm.mk.injEq,DTerm.beqL_iff l l',and_assoc]
theorem DTerm.beqL_iff:∀ (x y:List DTerm),DTerm.beqL x y=true↔x=y
  | [],[]=>by simp [DTerm.beqL]
  | [],y :: m=>by simp [DTerm.beqL]
  | x :: l,[]=>by simp [DTerm.beqL]
  | x :: l,y :: m=>by simp only [DTerm.beqL,Bool.and_eq_true,DTerm.beq_iff x y,DTerm.beqL_iff l m,List.cons.injEq]
end
instance:DecidableEq DTerm:=fun x y=>decidable_of_iff _ (DTerm.beq_iff x y)
mutual
def zlt:DTerm→List Nat→World→List Value→Prop
  | .mk k n s ks,F,w,cs=>∃ a cap Fi xs,cs=[.int .i64 k,.int .i64 n,.string s,.slice a ks.length cap]∧I64 k∧I64 n∧s.size≤maxLen∧ks.length≤cap∧cap≤maxLen∧zdq ks Fi w xs ∧
    ((ks=[]∧F=[])∨∃ b o,a=some ⟨b,o,none⟩∧F=b :: Fi∧w.rangeAt b o xs∧b<w.heap.size)
def zdq:List DTerm→List Nat→World→List Value→Prop
  | [],F,_,xs=>F=[]∧xs=[]
  | y :: ys,F,w,xs=>∃ F1 F2 c1 c2,F=F1++F2∧xs=c1++c2∧zlt y F1 w c1∧zdq ys F2 w c2
end
theorem zn2 {t:DTerm} {F:List Nat} {w:World} {cs:List Value} (h:zlt t F w cs):cs.length=4:=by
 cases t;rw [zlt] at h;obtain ⟨a,cap,Fi,xs,rfl,_⟩:=h;rfl
theorem zn3 {t:DTerm} {F:List Nat} {w:World} {cs:List Value} (h:zlt t F w cs):∀ v∈cs,v.oneCell'=true:=by
 cases t;rw [zlt] at h;obtain ⟨a,cap,Fi,xs,rfl,_⟩:=h
 intro v hv
 simp only [List.mem_cons,List.not_mem_nil,or_false] at hv
 rcases hv with rfl | rfl | rfl | rfl<;>rfl
mutual
theorem ziO:∀ (t:DTerm) {F:List Nat} {w w':World} {cs:List Value},zlt t F w cs→(∀ b∈F,w'.heap[b]?=w.heap[b]?)→zlt t F w' cs
  | .mk k n s ks,F,w,w',cs,h,hk=>by
    rw [zlt] at h ⊢
    obtain ⟨a,cap,Fi,xs,hcs,i1,i2,i3,h1,h2,hc,h4⟩:=h
    rcases h4 with ⟨rfl,rfl⟩ | ⟨b,o,ha,hF,hr,hb⟩
    · exact ⟨a,cap,Fi,xs,hcs,i1,i2,i3,h1,h2,by rw [zdq] at hc ⊢;exact hc,.inl ⟨rfl,rfl⟩⟩
    subst hF
    have hbb:=hk b (by simp)
    refine ⟨a,cap,Fi,xs,hcs,i1,i2,i3,h1,h2,zgj ks hc fun c hc=>hk c (by simp [hc]),.inr ⟨b,o,ha,rfl,zbX hr hbb,?_⟩⟩
    rcases Nat.lt_or_ge b (Array.size (World.heap w')) with h' | h'
    · exact h'
    rw [Array.getElem?_eq_none h'] at hbb
    simp [Array.getElem?_eq_getElem hb] at hbb
theorem zgj:∀ (l:List DTerm) {F:List Nat} {w w':World} {cs:List Value},zdq l F w cs→(∀ b∈F,w'.heap[b]?=w.heap[b]?)→zdq l F w' cs
  | [],F,w,w',cs,h,_=>by rw [zdq] at h ⊢;exact h
  | y :: ys,F,w,w',cs,h,hk=>by
    rw [zdq] at h ⊢
    obtain ⟨F1,F2,c1,c2,rfl,rfl,h1,h2⟩:=h
    exact ⟨F1,F2,c1,c2,rfl,rfl,ziO y h1 fun b hb=>hk b (by simp [hb]),zgj ys h2 fun b hb=>hk b (by simp [hb])⟩
end
mutual
theorem zms:∀ (t:DTerm) {F:List Nat} {w:World} {cs:List Value},zlt t F w cs→∀ b∈F,b<w.heap.size
  | .mk k n s ks,F,w,cs,h,c,hm=>by
    rw [zlt] at h
    obtain ⟨a,cap,Fi,xs,hcs,i1,i2,i3,h1,h2,hc,h4⟩:=h
    rcases h4 with ⟨rfl,rfl⟩ | ⟨b,o,ha,hF,hr,hb⟩
    · cases hm
    subst hF
    rcases List.mem_cons.1 hm with rfl | hm
    · exact hb
    exact ziP ks hc c hm
theorem ziP:∀ (l:List DTerm) {F:List Nat} {w:World} {cs:List Value},zdq l F w cs→∀ b∈F,b<w.heap.size
  | [],F,w,cs,h,c,hm=>by rw [zdq] at h;rw [h.1] at hm;cases hm
  | y :: ys,F,w,cs,h,c,hm=>by
    rw [zdq] at h
    obtain ⟨F1,F2,c1,c2,rfl,rfl,h1,h2⟩:=h
    rcases List.mem_append.1 hm with hm | hm
    · exact zms y h1 c hm
    exact ziP ys h2 c hm
end
instance:Rep DTerm where
 size:=4
 agg:=true
 rep F w cs x:=zlt x F w cs
 pos:=by decide
 sz h:=by cases h
 len h:=zn2 h
 one h:=zn3 h
 keep h hk:=ziO _ h hk
 lt h:=zms _ h
theorem zeY {w:World}:∀ {l:List DTerm} {F:List Nat} {xs:List Value},zdq l F w xs↔Cells F w xs l
 | [],F,xs=>by rw [zdq];exact Iff.rfl
 | y :: ys,F,xs=>by
   rw [zdq]
   constructor
   · rintro ⟨F1,F2,c1,c2,h1,h2,h3,h4⟩;exact ⟨F1,F2,c1,c2,h1,h2,h3,zeY.1 h4⟩
   rintro ⟨F1,F2,c1,c2,h1,h2,h3,h4⟩;exact ⟨F1,F2,c1,c2,h1,h2,h3,zeY.2 h4⟩
theorem zez {w:World} {F:List Nat} {cs:List Value} {t:DTerm}:rep F w cs t↔rep F w cs t.tup:=by
 obtain ⟨k,n,s,ks⟩:=t
 show zlt _ F w cs↔_
 rw [zlt]
 constructor
 · rintro ⟨a,cap,Fi,xs,rfl,i1,i2,i3,h1,h2,hc,h4⟩
   refine ⟨[],F,[.int .i64 k],_,rfl,rfl,⟨rfl,rfl,i1⟩,[],F,[.int .i64 n],_,rfl,rfl,⟨rfl,rfl,i2⟩,[],F,[.string s],_,rfl,rfl,⟨rfl,rfl,i3⟩,a,cap,Fi,xs,rfl,h1,h2,zeY.1 hc,h4⟩
 rintro ⟨_,_,_,_,rfl,rfl,⟨rfl,rfl,i1⟩,_,_,_,_,rfl,rfl,⟨rfl,rfl,i2⟩,_,_,_,_,rfl,rfl,⟨rfl,rfl,i3⟩,a,cap,Fi,xs,rfl,h1,h2,hc,h4⟩
 exact ⟨a,cap,Fi,xs,rfl,i1,i2,i3,h1,h2,zeY.2 hc,h4⟩
theorem zkO {w:World} {b o:Nat} {t:DTerm}:At w b o t↔At w b o t.tup:=
 ⟨fun ⟨F,cs,h,k⟩=>⟨F,cs,zez.1 h,k⟩,fun ⟨F,cs,h,k⟩=>⟨F,cs,zez.2 h,k⟩⟩
theorem zmt {w:World} {G:List Nat} {b o:Nat} {t:DTerm}:OAt G w b o t↔OAt G w b o t.tup:=
 ⟨fun ⟨cs,h,k⟩=>⟨cs,zez.1 h,k⟩,fun ⟨cs,h,k⟩=>⟨cs,zez.2 h,k⟩⟩
section
variable {w:World} {b o:Nat}
theorem zbj {x:DTerm} (h:At w b o x):At w b (o+0) x.kind:=zdl (α:=Int) (β:=Int×ByteArray×List DTerm) (p:=x.tup) (zkO.1 h)
theorem za7 {x:DTerm} (h:At w b o x):At w b (o+1) x.num:=zdl (α:=Int) (β:=ByteArray×List DTerm) (p:=(x.num,x.name,x.kids)) (zbH (α:=Int) (β:=Int×ByteArray×List DTerm) (p:=x.tup) (zkO.1 h))
theorem zaP {x:DTerm} (h:At w b o x):At w b (o+2) x.name:=zdl (α:=ByteArray) (β:=List DTerm) (p:=(x.name,x.kids)) (zbH (α:=Int) (β:=ByteArray×List DTerm) (p:=(x.num,x.name,x.kids)) (zbH (α:=Int) (β:=Int×ByteArray×List DTerm) (p:=x.tup) (zkO.1 h)))
theorem zau {x:DTerm} (h:At w b o x):At w b (o+3) x.kids:=zbH (α:=ByteArray) (β:=List DTerm) (p:=(x.name,x.kids)) (zbH (α:=Int) (β:=ByteArray×List DTerm) (p:=(x.num,x.name,x.kids)) (zbH (α:=Int) (β:=Int×ByteArray×List DTerm) (p:=x.tup) (zkO.1 h)))
end
theorem Lens.term {w:World} {γ:Type} {H:List Nat→World→γ→Prop} {F:List Nat} {b o:Nat} {G:List Nat} {t:DTerm} {upd:DTerm→γ} (h:Lens H F w b o G t upd) :
   Lens H F w b o G t.tup (fun p=>upd (.mk p.1 p.2.1 p.2.2.1 p.2.2.2)):=
 ⟨zmt.1 h.here,h.sub,fun w' G' y' hc hO hs=>h.back w' G' _ hc (zmt.2 hO) hs⟩
instance:RepZ DTerm:=⟨.mk 0 0 ByteArray.empty [],RepZ.zc (Int×Int×ByteArray×List DTerm),fun w=>zez.2 (RepZ.zr (α:=Int×Int×ByteArray×List DTerm) w)⟩
section
variable {γ:Type} {H:List Nat→World→γ→Prop} {F:List Nat} {w:World} {b o:Nat} {G:List Nat} {x:DTerm} {upd:DTerm→γ}
theorem zdS (h:Lens H F w b o G x upd):∃ G1,Lens H F w b (o+0) G1 x.kind (fun y=>upd (.mk y x.num x.name x.kids)):=by
 obtain ⟨G1,h1⟩:=h.term.fst;exact ⟨G1,h1⟩
theorem zdT (h:Lens H F w b o G x upd):∃ G1,Lens H F w b (o+1) G1 x.num (fun y=>upd (.mk x.kind y x.name x.kids)):=by
 obtain ⟨G1,h1⟩:=h.term.snd;obtain ⟨G2,h2⟩:=h1.fst;exact ⟨G2,h2⟩
theorem zdU (h:Lens H F w b o G x upd):∃ G1,Lens H F w b (o+2) G1 x.name (fun y=>upd (.mk x.kind x.num y x.kids)):=by
 obtain ⟨G1,h1⟩:=h.term.snd;obtain ⟨G2,h2⟩:=h1.snd;obtain ⟨G3,h3⟩:=h2.fst;exact ⟨G3,h3⟩
theorem zdV (h:Lens H F w b o G x upd):∃ G1,Lens H F w b (o+3) G1 x.kids (fun y=>upd (.mk x.kind x.num x.name y)):=by
 obtain ⟨G1,h1⟩:=h.term.snd;obtain ⟨G2,h2⟩:=h1.snd;obtain ⟨G3,h3⟩:=h2.snd;exact ⟨G3,h3⟩
end
theorem zmu {P:Program} {t:TypeId} {n:Nat} (h:zcR P t (Int×Int×ByteArray×List DTerm) n):zcR P t DTerm n:=by
 intro H enc w spare held cs y hh
 obtain ⟨F,x,hx⟩:=h H enc w spare held cs y hh
 exact ⟨F,.mk x.1 x.2.1 x.2.2.1 x.2.2.2,zez.2 hx⟩
structure DIns where
 op:Int
 arg:Int
 term:DTerm
 to:Int
theorem DIns.ext_iff {x y:DIns}:x=y↔(x.op=y.op∧x.arg=y.arg∧x.term=y.term∧x.to=y.to):=⟨fun h=>by rw [h];exact ⟨rfl,rfl,rfl,rfl⟩,fun h=>by obtain ⟨h0,h1,h2,h3⟩:=h;cases x;cases y;simp only at h0 h1 h2 h3;simp only [h0,h1,h2,h3]⟩
instance:DecidableEq DIns:=fun x y=>decidable_of_iff (x.op=y.op∧x.arg=y.arg∧x.term=y.term∧x.to=y.to) DIns.ext_iff.symm
instance:Rep DIns:=Rep.via fun x=>(x.op,x.arg,x.term,x.to)
theorem zat {w:World} {b o:Nat} {x:DIns} (h:At w b o x):At w b (o+0) x.op:=zdl (α:=Int) (β:=Int×DTerm×Int) (p:=(x.op,x.arg,x.term,x.to)) h
theorem zaJ {w:World} {b o:Nat} {x:DIns} (h:At w b o x):At w b (o+1) x.arg:=zdl (α:=Int) (β:=DTerm×Int) (p:=(x.arg,x.term,x.to)) (zbH (α:=Int) (β:=Int×DTerm×Int) (p:=(x.op,x.arg,x.term,x.to)) h)
theorem zbm {w:World} {b o:Nat} {x:DIns} (h:At w b o x):At w b (o+2) x.term:=zdl (α:=DTerm) (β:=Int) (p:=(x.term,x.to)) (zbH (α:=Int) (β:=DTerm×Int) (p:=(x.arg,x.term,x.to)) (zbH (α:=Int) (β:=Int×DTerm×Int) (p:=(x.op,x.arg,x.term,x.to)) h))
theorem za4 {w:World} {b o:Nat} {x:DIns} (h:At w b o x):At w b (o+6) x.to:=zbH (α:=DTerm) (β:=Int) (p:=(x.term,x.to)) (zbH (α:=Int) (β:=DTerm×Int) (p:=(x.arg,x.term,x.to)) (zbH (α:=Int) (β:=Int×DTerm×Int) (p:=(x.op,x.arg,x.term,x.to)) h))
instance:RepZ DIns:=⟨⟨(RepZ.zv:Int),(RepZ.zv:Int),(RepZ.zv:DTerm),(RepZ.zv:Int)⟩,RepZ.zc (Int×Int×DTerm×Int),fun w=>RepZ.zr (α:=Int×Int×DTerm×Int) w⟩
theorem zgk {γ:Type} {H:List Nat→World→γ→Prop} {F:List Nat} {w:World} {b o:Nat} {G:List Nat} {x:DIns} {upd:DIns→γ} (h:Lens H F w b o G x upd) :
   ∃ G1,Lens H F w b (o+0) G1 x.op (fun y=>upd ⟨y,x.arg,x.term,x.to⟩):=by
 have h':Lens H F w b o G (x.op,x.arg,x.term,x.to) (fun p:Int×Int×DTerm×Int=>upd ⟨p.1,p.2.1,p.2.2.1,p.2.2.2⟩):=⟨h.here,h.sub,fun w' G' y' hc hO hs=>h.back w' G' _ hc hO hs⟩
 obtain ⟨G0,h'⟩:=h'.fst
 exact ⟨_,h'⟩
theorem zgl {γ:Type} {H:List Nat→World→γ→Prop} {F:List Nat} {w:World} {b o:Nat} {G:List Nat} {x:DIns} {upd:DIns→γ} (h:Lens H F w b o G x upd) :
   ∃ G1,Lens H F w b (o+1) G1 x.arg (fun y=>upd ⟨x.op,y,x.term,x.to⟩):=by
 have h':Lens H F w b o G (x.op,x.arg,x.term,x.to) (fun p:Int×Int×DTerm×Int=>upd ⟨p.1,p.2.1,p.2.2.1,p.2.2.2⟩):=⟨h.here,h.sub,fun w' G' y' hc hO hs=>h.back w' G' _ hc hO hs⟩
 obtain ⟨G0,h'⟩:=h'.snd
 obtain ⟨G1,h'⟩:=h'.fst
 exact ⟨_,h'⟩
theorem zcT {γ:Type} {H:List Nat→World→γ→Prop} {F:List Nat} {w:World} {b o:Nat} {G:List Nat} {x:DIns} {upd:DIns→γ} (h:Lens H F w b o G x upd) :
   ∃ G1,Lens H F w b (o+2) G1 x.term (fun y=>upd ⟨x.op,x.arg,y,x.to⟩):=by
 have h':Lens H F w b o G (x.op,x.arg,x.term,x.to) (fun p:Int×Int×DTerm×Int=>upd ⟨p.1,p.2.1,p.2.2.1,p.2.2.2⟩):=⟨h.here,h.sub,fun w' G' y' hc hO hs=>h.back w' G' _ hc hO hs⟩
 obtain ⟨G0,h'⟩:=h'.snd
 obtain ⟨G1,h'⟩:=h'.snd
 obtain ⟨G2,h'⟩:=h'.fst
 exact ⟨_,h'⟩
theorem zgm {γ:Type} {H:List Nat→World→γ→Prop} {F:List Nat} {w:World} {b o:Nat} {G:List Nat} {x:DIns} {upd:DIns→γ} (h:Lens H F w b o G x upd) :
   ∃ G1,Lens H F w b (o+6) G1 x.to (fun y=>upd ⟨x.op,x.arg,x.term,y⟩):=by
 have h':Lens H F w b o G (x.op,x.arg,x.term,x.to) (fun p:Int×Int×DTerm×Int=>upd ⟨p.1,p.2.1,p.2.2.1,p.2.2.2⟩):=⟨h.here,h.sub,fun w' G' y' hc hO hs=>h.back w' G' _ hc hO hs⟩
 obtain ⟨G0,h'⟩:=h'.snd
 obtain ⟨G1,h'⟩:=h'.snd
 obtain ⟨G2,h'⟩:=h'.snd
 exact ⟨_,h'⟩
structure DCode where
 globals:List ByteArray
 locks:List ByteArray
 procs:List ByteArray
 entry:List Int
 ins:List DIns
theorem DCode.ext_iff {x y:DCode}:x=y↔(x.globals=y.globals∧x.locks=y.locks∧x.procs=y.procs∧x.entry=y.entry∧x.ins=y.ins):=⟨fun h=>by rw [h];exact ⟨rfl,rfl,rfl,rfl,rfl⟩,fun h=>by obtain ⟨h0,h1,h2,h3,h4⟩:=h;cases x;cases y;simp only at h0 h1 h2 h3 h4;simp only [h0,h1,h2,h3,h4]⟩
instance:DecidableEq DCode:=fun x y=>decidable_of_iff (x.globals=y.globals∧x.locks=y.locks∧x.procs=y.procs∧x.entry=y.entry∧x.ins=y.ins) DCode.ext_iff.symm
instance:Rep DCode:=Rep.via fun x=>(x.globals,x.locks,x.procs,x.entry,x.ins)
theorem za2 {w:World} {b o:Nat} {x:DCode} (h:At w b o x):At w b (o+0) x.globals:=zdl (α:=List ByteArray) (β:=(List ByteArray)×(List ByteArray)×(List Int)×(List DIns)) (p:=(x.globals,x.locks,x.procs,x.entry,x.ins)) h
theorem zaB {w:World} {b o:Nat} {x:DCode} (h:At w b o x):At w b (o+1) x.locks:=zdl (α:=List ByteArray) (β:=(List ByteArray)×(List Int)×(List DIns)) (p:=(x.locks,x.procs,x.entry,x.ins)) (zbH (α:=List ByteArray) (β:=(List ByteArray)×(List ByteArray)×(List Int)×(List DIns)) (p:=(x.globals,x.locks,x.procs,x.entry,x.ins)) h)
theorem zaw {w:World} {b o:Nat} {x:DCode} (h:At w b o x):At w b (o+2) x.procs:=zdl (α:=List ByteArray) (β:=(List Int)×(List DIns)) (p:=(x.procs,x.entry,x.ins)) (zbH (α:=List ByteArray) (β:=(List ByteArray)×(List Int)×(List DIns)) (p:=(x.locks,x.procs,x.entry,x.ins)) (zbH (α:=List ByteArray) (β:=(List ByteArray)×(List ByteArray)×(List Int)×(List DIns)) (p:=(x.globals,x.locks,x.procs,x.entry,x.ins)) h))
theorem zal {w:World} {b o:Nat} {x:DCode} (h:At w b o x):At w b (o+3) x.entry:=zdl (α:=List Int) (β:=(List DIns)) (p:=(x.entry,x.ins)) (zbH (α:=List ByteArray) (β:=(List Int)×(List DIns)) (p:=(x.procs,x.entry,x.ins)) (zbH (α:=List ByteArray) (β:=(List ByteArray)×(List Int)×(List DIns)) (p:=(x.locks,x.procs,x.entry,x.ins)) (zbH (α:=List ByteArray) (β:=(List ByteArray)×(List ByteArray)×(List Int)×(List DIns)) (p:=(x.globals,x.locks,x.procs,x.entry,x.ins)) h)))
theorem zak {w:World} {b o:Nat} {x:DCode} (h:At w b o x):At w b (o+4) x.ins:=zbH (α:=List Int) (β:=(List DIns)) (p:=(x.entry,x.ins)) (zbH (α:=List ByteArray) (β:=(List Int)×(List DIns)) (p:=(x.procs,x.entry,x.ins)) (zbH (α:=List ByteArray) (β:=(List ByteArray)×(List Int)×(List DIns)) (p:=(x.locks,x.procs,x.entry,x.ins)) (zbH (α:=List ByteArray) (β:=(List ByteArray)×(List ByteArray)×(List Int)×(List DIns)) (p:=(x.globals,x.locks,x.procs,x.entry,x.ins)) h)))
instance:RepZ DCode:=⟨⟨(RepZ.zv:List ByteArray),(RepZ.zv:List ByteArray),(RepZ.zv:List ByteArray),(RepZ.zv:List Int),(RepZ.zv:List DIns)⟩,RepZ.zc ((List ByteArray)×(List ByteArray)×(List ByteArray)×(List Int)×(List DIns)),fun w=>RepZ.zr (α:=(List ByteArray)×(List ByteArray)×(List ByteArray)×(List Int)×(List DIns)) w⟩
theorem ziQ {γ:Type} {H:List Nat→World→γ→Prop} {F:List Nat} {w:World} {b o:Nat} {G:List Nat} {x:DCode} {upd:DCode→γ} (h:Lens H F w b o G x upd) :
   ∃ G1,Lens H F w b (o+0) G1 x.globals (fun y=>upd ⟨y,x.locks,x.procs,x.entry,x.ins⟩):=by
 have h':Lens H F w b o G (x.globals,x.locks,x.procs,x.entry,x.ins) (fun p:(List ByteArray)×(List ByteArray)×(List ByteArray)×(List Int)×(List DIns)=>upd ⟨p.1,p.2.1,p.2.2.1,p.2.2.2.1,p.2.2.2.2⟩):=⟨h.here,h.sub,fun w' G' y' hc hO hs=>h.back w' G' _ hc hO hs⟩
 obtain ⟨G0,h'⟩:=h'.fst
 exact ⟨_,h'⟩
theorem ziR {γ:Type} {H:List Nat→World→γ→Prop} {F:List Nat} {w:World} {b o:Nat} {G:List Nat} {x:DCode} {upd:DCode→γ} (h:Lens H F w b o G x upd) :
   ∃ G1,Lens H F w b (o+1) G1 x.locks (fun y=>upd ⟨x.globals,y,x.procs,x.entry,x.ins⟩):=by
 have h':Lens H F w b o G (x.globals,x.locks,x.procs,x.entry,x.ins) (fun p:(List ByteArray)×(List ByteArray)×(List ByteArray)×(List Int)×(List DIns)=>upd ⟨p.1,p.2.1,p.2.2.1,p.2.2.2.1,p.2.2.2.2⟩):=⟨h.here,h.sub,fun w' G' y' hc hO hs=>h.back w' G' _ hc hO hs⟩
 obtain ⟨G0,h'⟩:=h'.snd
 obtain ⟨G1,h'⟩:=h'.fst
 exact ⟨_,h'⟩
theorem ziS {γ:Type} {H:List Nat→World→γ→Prop} {F:List Nat} {w:World} {b o:Nat} {G:List Nat} {x:DCode} {upd:DCode→γ} (h:Lens H F w b o G x upd) :
   ∃ G1,Lens H F w b (o+2) G1 x.procs (fun y=>upd ⟨x.globals,x.locks,y,x.entry,x.ins⟩):=by
 have h':Lens H F w b o G (x.globals,x.locks,x.procs,x.entry,x.ins) (fun p:(List ByteArray)×(List ByteArray)×(List ByteArray)×(List Int)×(List DIns)=>upd ⟨p.1,p.2.1,p.2.2.1,p.2.2.2.1,p.2.2.2.2⟩):=⟨h.here,h.sub,fun w' G' y' hc hO hs=>h.back w' G' _ hc hO hs⟩
 obtain ⟨G0,h'⟩:=h'.snd
 obtain ⟨G1,h'⟩:=h'.snd
 obtain ⟨G2,h'⟩:=h'.fst
 exact ⟨_,h'⟩
theorem ziT {γ:Type} {H:List Nat→World→γ→Prop} {F:List Nat} {w:World} {b o:Nat} {G:List Nat} {x:DCode} {upd:DCode→γ} (h:Lens H F w b o G x upd) :
   ∃ G1,Lens H F w b (o+3) G1 x.entry (fun y=>upd ⟨x.globals,x.locks,x.procs,y,x.ins⟩):=by
 have h':Lens H F w b o G (x.globals,x.locks,x.procs,x.entry,x.ins) (fun p:(List ByteArray)×(List ByteArray)×(List ByteArray)×(List Int)×(List DIns)=>upd ⟨p.1,p.2.1,p.2.2.1,p.2.2.2.1,p.2.2.2.2⟩):=⟨h.here,h.sub,fun w' G' y' hc hO hs=>h.back w' G' _ hc hO hs⟩
 obtain ⟨G0,h'⟩:=h'.snd
 obtain ⟨G1,h'⟩:=h'.snd
 obtain ⟨G2,h'⟩:=h'.snd
 obtain ⟨G3,h'⟩:=h'.fst
 exact ⟨_,h'⟩
theorem ziU {γ:Type} {H:List Nat→World→γ→Prop} {F:List Nat} {w:World} {b o:Nat} {G:List Nat} {x:DCode} {upd:DCode→γ} (h:Lens H F w b o G x upd) :
   ∃ G1,Lens H F w b (o+4) G1 x.ins (fun y=>upd ⟨x.globals,x.locks,x.procs,x.entry,y⟩):=by
 have h':Lens H F w b o G (x.globals,x.locks,x.procs,x.entry,x.ins) (fun p:(List ByteArray)×(List ByteArray)×(List ByteArray)×(List Int)×(List DIns)=>upd ⟨p.1,p.2.1,p.2.2.1,p.2.2.2.1,p.2.2.2.2⟩):=⟨h.here,h.sub,fun w' G' y' hc hO hs=>h.back w' G' _ hc hO hs⟩
 obtain ⟨G0,h'⟩:=h'.snd
 obtain ⟨G1,h'⟩:=h'.snd
 obtain ⟨G2,h'⟩:=h'.snd
 obtain ⟨G3,h'⟩:=h'.snd
 exact ⟨_,h'⟩
theorem zgn {w:World} {F:List Nat} {cs:List Value} {x:DCode} (h:rep F w cs x):∃ F0 c0 F1 c1 F2 c2 F3 c3 F4 c4,F=(F0++(F1++(F2++(F3++F4))))∧cs=(c0++(c1++(c2++(c3++c4))))∧rep F0 w c0 x.globals∧rep F1 w c1 x.locks∧rep F2 w c2 x.procs∧rep F3 w c3 x.entry∧rep F4 w c4 x.ins:=by
 obtain ⟨F0,G0,c0,d0,rfl,rfl,h0,h⟩:=h
 obtain ⟨F1,G1,c1,d1,rfl,rfl,h1,h⟩:=h
 obtain ⟨F2,G2,c2,d2,rfl,rfl,h2,h⟩:=h
 obtain ⟨F3,G3,c3,d3,rfl,rfl,h3,h⟩:=h
 exact ⟨_,_,_,_,_,_,_,_,_,_,rfl,rfl,h0,h1,h2,h3,h⟩
structure DTouch where
 at_:Int
 global:Int
 write:Bool
 held:Int
theorem DTouch.ext_iff {x y:DTouch}:x=y↔(x.at_=y.at_∧x.global=y.global∧x.write=y.write∧x.held=y.held):=⟨fun h=>by rw [h];exact ⟨rfl,rfl,rfl,rfl⟩,fun h=>by obtain ⟨h0,h1,h2,h3⟩:=h;cases x;cases y;simp only at h0 h1 h2 h3;simp only [h0,h1,h2,h3]⟩
instance:DecidableEq DTouch:=fun x y=>decidable_of_iff (x.at_=y.at_∧x.global=y.global∧x.write=y.write∧x.held=y.held) DTouch.ext_iff.symm
instance:Rep DTouch:=Rep.via fun x=>(x.at_,x.global,x.write,x.held)
instance:RepZ DTouch:=⟨⟨(RepZ.zv:Int),(RepZ.zv:Int),(RepZ.zv:Bool),(RepZ.zv:Int)⟩,RepZ.zc (Int×Int×Bool×Int),fun w=>RepZ.zr (α:=Int×Int×Bool×Int) w⟩
instance:Flat DTouch:=⟨fun h=>Flat.flat (α:=Int×Int×Bool×Int) h⟩
end Go.Sh
namespace Go.Proofs.YtifonhplnmpgaaaGreat
open Go Go.Sh Go.Proofs
open Rep (rep)
def zil (b:UInt8):Bool:=decide ((97:Int)≤(b.toNat:Int)∧(b.toNat:Int)≤122)
def zlu (b:UInt8):Bool:=decide ((48:Int)≤(b.toNat:Int)∧(b.toNat:Int)≤57)
def zfE (s:ByteArray):Bool:=decide (s.size≤12)&&(bts s).head?.any zil&&(bts s).all (fun b=>zil b || zlu b)
def kw:List ByteArray:=[.mk #[97,110,100],.mk #[99,97,108,108],.mk #[101,108,115,101],.mk #[103,108,111,98,97,108,115],.mk #[105,102],.mk #[108,111,99,107],.mk #[108,111,99,107,115],
 .mk #[110,111,116],.mk #[112,114,111,99],.mk #[115,107,105,112],.mk #[115,112,97,119,110],.mk #[117,110,108,111,99,107],.mk #[119,104,105,108,101]]
def zbb (s:ByteArray):Bool:=zfE s&&!decide (s∈kw)
def F253 (a0:Value) (w:World) (R:VW):Prop:=
 rB .geq 5 T0 U0 a0 (Value.int .u8 97) w fun x4=>
 BR x4
 (rB .leq 5 T0 U0 a0 (Value.int .u8 122) w fun x7=>
 R x7 w)
 (R (Value.bool false) w)
def cfg253:Cfg:=⟨extL,[],[],[],[],[],[]⟩
theorem F253_call {a0:Value} {w:World} {R:VW} (h:F253 a0 w R):cL 253 [a0] w R:=co (g:=cfg253) Tryz.func253 (by kernel_rfl) (by kernel_rfl) (by kernel_rfl) h
theorem zhc {w:World} {n:Nat}    :
   CALL Tryz.prog 253 [.int .u8 (n:Int)] w fun r w'=>Ext w w'∧(r=.bool (decide ((97:Int)≤(n:Int)∧(n:Int)≤122))):=by
 refine F253_call ?_
 unfold F253
 refine zbY ?_
 refine br (fun c1=>?_) (fun c1=>?_)
 · refine zdM ?_
   refine ⟨Ext.refl w,?_⟩
   simp [c1]
 refine ⟨Ext.refl w,?_⟩
 simp [c1]
def F254 (a0:Value) (w:World) (R:VW):Prop:=
 rB .geq 5 T0 U0 a0 (Value.int .u8 48) w fun x4=>
 BR x4
 (rB .leq 5 T0 U0 a0 (Value.int .u8 57) w fun x7=>
 R x7 w)
 (R (Value.bool false) w)
def cfg254:Cfg:=⟨extL,[],[],[],[],[],[]⟩
theorem F254_call {a0:Value} {w:World} {R:VW} (h:F254 a0 w R):cL 254 [a0] w R:=co (g:=cfg254) Tryz.func254 (by kernel_rfl) (by kernel_rfl) (by kernel_rfl) h
theorem zjY {w:World} {n:Nat}    :
   CALL Tryz.prog 254 [.int .u8 (n:Int)] w fun r w'=>Ext w w'∧(r=.bool (decide ((48:Int)≤(n:Int)∧(n:Int)≤57))):=by
 refine F254_call ?_
 unfold F254
 refine zbY ?_
 refine br (fun c1=>?_) (fun c1=>?_)
 · refine zdM ?_
   refine ⟨Ext.refl w,?_⟩
   simp [c1]
 refine ⟨Ext.refl w,?_⟩
 simp [c1]
def F251 (a0:Value) (w:World) (R:VW):Prop:=
 rB .geq 5 T0 U0 a0 (Value.int .u8 97) w fun x4=>
 BR x4
 (rB .leq 5 T0 U0 a0 (Value.int .u8 122) w fun x7=>
 R x7 w)
 (R (Value.bool false) w)
def cfg251:Cfg:=⟨extL,[],[],[],[],[],[]⟩
theorem F251_call {a0:Value} {w:World} {R:VW} (h:F251 a0 w R):cL 251 [a0] w R:=co (g:=cfg251) Tryz.func251 (by kernel_rfl) (by kernel_rfl) (by kernel_rfl) h
theorem zfy {w:World} {n:Nat}    :
   CALL Tryz.prog 251 [.int .u8 (n:Int)] w fun r w'=>Ext w w'∧(r=.bool (decide ((97:Int)≤(n:Int)∧(n:Int)≤122))):=by
 refine F251_call ?_
 unfold F251
 refine zbY ?_
 refine br (fun c1=>?_) (fun c1=>?_)
 · refine zdM ?_
   refine ⟨Ext.refl w,?_⟩
   simp [c1]
 refine ⟨Ext.refl w,?_⟩
 simp [c1]
def F252 (a0:Value) (w:World) (R:VW):Prop:=
 rB .geq 5 T0 U0 a0 (Value.int .u8 48) w fun x4=>
 BR x4
 (rB .leq 5 T0 U0 a0 (Value.int .u8 57) w fun x7=>
 R x7 w)
 (R (Value.bool false) w)
def cfg252:Cfg:=⟨extL,[],[],[],[],[],[]⟩
theorem F252_call {a0:Value} {w:World} {R:VW} (h:F252 a0 w R):cL 252 [a0] w R:=co (g:=cfg252) Tryz.func252 (by kernel_rfl) (by kernel_rfl) (by kernel_rfl) h
theorem ziV {w:World} {n:Nat}    :
   CALL Tryz.prog 252 [.int .u8 (n:Int)] w fun r w'=>Ext w w'∧(r=.bool (decide ((48:Int)≤(n:Int)∧(n:Int)≤57))):=by
 refine F252_call ?_
 unfold F252
 refine zbY ?_
 refine br (fun c1=>?_) (fun c1=>?_)
 · refine zdM ?_
   refine ⟨Ext.refl w,?_⟩
   simp [c1]
 refine ⟨Ext.refl w,?_⟩
 simp [c1]
theorem zkP {s:ByteArray} (h:0<s.size):(bts s).head?=some ((bts s)[0]'(by rw [zbg];exact h)):=by
 rw [List.head?_eq_getElem?,List.getElem?_eq_getElem (by rw [zbg];exact h)]
theorem zhd {s:ByteArray} (h:s.size=0):zfE s=false:=by
 have:bts s=[]:=List.eq_nil_of_length_eq_zero (by rw [zbg];exact h)
 simp [zfE,this]
theorem ziW {s:ByteArray} (h:12<s.size):zfE s=false:=by
 simp [zfE,Nat.not_le.2 h]
theorem ziX {s:ByteArray} (h:0<s.size) (c:¬((97:Int)≤(((bts s)[0]'(by rw [zbg];exact h)).toNat:Int)∧(((bts s)[0]'(by rw [zbg];exact h)).toNat:Int)≤122)):zfE s=false:=by
 have:zil ((bts s)[0]'(by rw [zbg];exact h))=false:=by simp only [zil,c,decide_false]
 simp [zfE,zkP h,this]
theorem zmv {s:ByteArray} {k:Nat} (h:k<s.size) (c1:¬((97:Int)≤(((bts s)[k]'(by rw [zbg];exact h)).toNat:Int)∧(((bts s)[k]'(by rw [zbg];exact h)).toNat:Int)≤122))
   (c2:¬((48:Int)≤(((bts s)[k]'(by rw [zbg];exact h)).toNat:Int)∧(((bts s)[k]'(by rw [zbg];exact h)).toNat:Int)≤57)):zfE s=false:=by
 have h1:zil ((bts s)[k]'(by rw [zbg];exact h))=false:=by simp only [zil,c1,decide_false]
 have h2:zlu ((bts s)[k]'(by rw [zbg];exact h))=false:=by simp only [zlu,c2,decide_false]
 have:(bts s).all (fun b=>zil b || zlu b)=false:=by
   rw [List.all_eq_false]
   exact ⟨_,List.getElem_mem (by rw [zbg];exact h),by simp [h1,h2]⟩
 simp [zfE,this]
theorem zeZ {s:ByteArray} {k:Nat} (h:k<s.size) (hi:∀ b∈(bts s).take k,(zil b || zlu b)=true) (c:zil ((bts s)[k]'(by rw [zbg];exact h))=true∨zlu ((bts s)[k]'(by rw [zbg];exact h))=true) :
   ∀ b∈(bts s).take (k+1),(zil b || zlu b)=true:=by
 rw [List.take_succ_eq_append_getElem (by rw [zbg];exact h)]
 intro b hb
 rcases List.mem_append.1 hb with hb | hb
 · exact hi b hb
 simp only [List.mem_cons,List.not_mem_nil,or_false] at hb
 subst hb
 simpa using c
theorem zkQ {s:ByteArray} {k:Nat} (h0:0<s.size) (h1:s.size≤12) (c:(97:Int)≤(((bts s)[0]'(by rw [zbg];exact h0)).toNat:Int)∧(((bts s)[0]'(by rw [zbg];exact h0)).toNat:Int)≤122) (hk:s.size≤k)
   (hi:∀ b∈(bts s).take k,(zil b || zlu b)=true):zfE s=true:=by
 rw [List.take_of_length_le (by rw [zbg];exact hk)] at hi
 have e1:zil ((bts s)[0]'(by rw [zbg];exact h0))=true:=by simp only [zil,c,and_self,decide_true]
 have e2:(bts s).all (fun b=>zil b || zlu b)=true:=List.all_eq_true.2 hi
 simp [zfE,zkP h0,e1,e2,h1]
def F221 (a0:Value) (w:World) (R:VW):Prop:=
 rN 9 3 a0 w fun x5=>
 rB .eql 3 T0 U0 x5 (iV 0) w fun x6=>
 BR x6
 (R (Value.bool false) w)
 (rN 9 3 a0 w fun x9=>
 rB .gtr 3 T0 U0 x9 (iV 12) w fun x10=>
 BR x10
 (R (Value.bool false) w)
 (rD (Instr.index 9 a0 (iV 0)) w fun x14=>
 cL 251 [x14] w fun x15 w=>
 rD (Op.unary .not x15) w fun x16=>
 BR x16
 (R (Value.bool false) w)
 (LOOPI [3] [(iV 0)] w fun u4 w next4=>
 rN 9 3 a0 w fun x20=>
 rC (u4 3) x20 w fun x21=>
 BR x21
 (rD (Instr.index 9 a0 (u4 3)) w fun x26=>
 cL 251 [x26] w fun x27 w=>
 rD (Op.unary .not x27) w fun x28=>
 BR x28
 (rD (Instr.index 9 a0 (u4 3)) w fun x32=>
 cL 252 [x32] w fun x33 w=>
 rD (Op.unary .not x33) w fun x34=>
 BR x34
 (R (Value.bool false) w)
 (rA (u4 3) (iV 1) w fun x23=>
 next4 [x23] w))
 (rA (u4 3) (iV 1) w fun x23=>
 next4 [x23] w))
 (R (Value.bool true) w))))
def cfg221:Cfg:=⟨extL,[],[(4,68719214604,[3])],[],[],[],[]⟩
theorem F221_call {a0:Value} {w:World} {R:VW} (h:F221 a0 w R):cL 221 [a0] w R:=co (g:=cfg221) Tryz.func221 (by kernel_rfl) (by kernel_rfl) (by kernel_rfl) h
theorem zlv {w:World} {s:ByteArray}    :
   CALL Tryz.prog 221 [.string s] w fun r w'=>Ext w w'∧(r=.bool (zfE s)):=by
 refine F221_call ?_
 unfold F221
 refine zdN u9 ?_
 refine zao ?_
 refine br (fun c1=>?_) (fun c1=>?_)
 · refine ⟨Ext.refl w,?_⟩
   rw [zhd (by omega)]
 refine zdN u9 ?_
 refine zb9 ?_
 refine br (fun c2=>?_) (fun c2=>?_)
 · refine ⟨Ext.refl w,?_⟩
   rw [ziW (by omega)]
 refine zdk (i:=0) u9 (by omega) ?_
 refine (zfy ).mono ?_
 rintro _ w1_ ⟨hx1_,rfl⟩
 refine zar ?_
 refine br (fun c3=>?_) (fun c3=>?_)
 · refine ⟨hx1_,?_⟩
   rw [ziX (by omega) c3]
 refine zaq (s.size) (fun k us w'=>us=[.int .i64 (k:Int)]∧Ext w1_ w'∧(∀ b∈(bts s).take k,(zil b || zlu b)=true)) (0) (by omega) ⟨by simp,Ext.refl w1_,by simp⟩ ?_
 rintro k m4 uu4 w2_ hk4 ⟨hu,hx2_,hinv⟩
 simp only [List.map_cons,List.map_nil,List.cons.injEq,and_true] at hu
 try rw [hu]
 try clear hu
 refine zdN u9 ?_
 refine zah ?_
 refine br (fun c4=>?_) (fun c4=>?_)
 · refine zdk u9 (by omega) ?_
   refine (zfy ).mono ?_
   rintro _ w3_ ⟨hx3_,rfl⟩
   refine zar ?_
   refine br (fun c5=>?_) (fun c5=>?_)
   · refine zdk u9 (by omega) ?_
     refine (ziV ).mono ?_
     rintro _ w4_ ⟨hx4_,rfl⟩
     refine zar ?_
     refine br (fun c6=>?_) (fun c6=>?_)
     · refine ⟨(hx1_.trans (hx2_.trans (hx3_.trans hx4_))),?_⟩
       rw [zmv (by omega) c5 c6]
     refine zaf (by omega) ?_
     refine ⟨m4-1,by omega,k+1,by omega,by simp,(hx2_.trans (hx3_.trans hx4_)),?_⟩
     exact zeZ (by omega) hinv (.inr (by simp only [zlu,Decidable.not_not.1 c6,and_self,decide_true]))
   refine zaf (by omega) ?_
   refine ⟨m4-1,by omega,k+1,by omega,by simp,(hx2_.trans hx3_),?_⟩
   exact zeZ (by omega) hinv (.inl (by simp only [zil,Decidable.not_not.1 c5,and_self,decide_true]))
 refine ⟨(hx1_.trans hx2_),?_⟩
 rw [zkQ (by omega) (by omega) (Decidable.not_not.1 c3) (by omega) hinv]
def F173 (a0:Value) (w:World) (R:VW):Prop:=
 rB .eql 9 T0 U0 a0 (Value.string (ByteArray.mk #[97,110,100])) w fun x5=>
 BR x5
 (R (Value.bool false) w)
 (rB .eql 9 T0 U0 a0 (Value.string (ByteArray.mk #[99,97,108,108])) w fun x6=>
 BR x6
 (R (Value.bool false) w)
 (rB .eql 9 T0 U0 a0 (Value.string (ByteArray.mk #[101,108,115,101])) w fun x7=>
 BR x7
 (R (Value.bool false) w)
 (rB .eql 9 T0 U0 a0 (Value.string (ByteArray.mk #[103,108,111,98,97,108,115])) w fun x8=>
 BR x8
 (R (Value.bool false) w)
 (rB .eql 9 T0 U0 a0 (Value.string (ByteArray.mk #[105,102])) w fun x9=>
 BR x9
 (R (Value.bool false) w)
 (rB .eql 9 T0 U0 a0 (Value.string (ByteArray.mk #[108,111,99,107])) w fun x10=>
 BR x10
 (R (Value.bool false) w)
 (rB .eql 9 T0 U0 a0 (Value.string (ByteArray.mk #[108,111,99,107,115])) w fun x11=>
 BR x11
 (R (Value.bool false) w)
 (rB .eql 9 T0 U0 a0 (Value.string (ByteArray.mk #[110,111,116])) w fun x12=>
 BR x12
 (R (Value.bool false) w)
 (rB .eql 9 T0 U0 a0 (Value.string (ByteArray.mk #[112,114,111,99])) w fun x13=>
 BR x13
 (R (Value.bool false) w)
 (rB .eql 9 T0 U0 a0 (Value.string (ByteArray.mk #[115,107,105,112])) w fun x14=>
 BR x14
 (R (Value.bool false) w)
 (rB .eql 9 T0 U0 a0 (Value.string (ByteArray.mk #[115,112,97,119,110])) w fun x15=>
 BR x15
 (R (Value.bool false) w)
 (rB .eql 9 T0 U0 a0 (Value.string (ByteArray.mk #[117,110,108,111,99,107])) w fun x16=>
 BR x16
 (R (Value.bool false) w)
 (rB .eql 9 T0 U0 a0 (Value.string (ByteArray.mk #[119,104,105,108,101])) w fun x17=>
 BR x17
 (R (Value.bool false) w)
 (cL 221 [a0] w fun x19 w=>
 R x19 w)))))))))))))
def cfg173:Cfg:=⟨extL,[],[],[],[],[],[]⟩
theorem F173_call {a0:Value} {w:World} {R:VW} (h:F173 a0 w R):cL 173 [a0] w R:=co (g:=cfg173) Tryz.func173 (by kernel_rfl) (by kernel_rfl) (by kernel_rfl) h
theorem ze0 {w:World} {s:ByteArray}    :
   CALL Tryz.prog 173 [.string s] w fun r w'=>Ext w w'∧(r=.bool (zbb s)):=by
 refine F173_call ?_
 unfold F173
 refine zaH ?_
 refine br (fun c1=>?_) (fun c1=>?_)
 · refine ⟨Ext.refl w,?_⟩
   have hm:s∈kw:=by simp [kw, *]
   simp [zbb,hm]
 refine zaH ?_
 refine br (fun c2=>?_) (fun c2=>?_)
 · refine ⟨Ext.refl w,?_⟩
   have hm:s∈kw:=by simp [kw, *]
   simp [zbb,hm]
 refine zaH ?_
 refine br (fun c3=>?_) (fun c3=>?_)
 · refine ⟨Ext.refl w,?_⟩
   have hm:s∈kw:=by simp [kw, *]
   simp [zbb,hm]
 refine zaH ?_
 refine br (fun c4=>?_) (fun c4=>?_)
 · refine ⟨Ext.refl w,?_⟩
   have hm:s∈kw:=by simp [kw, *]
   simp [zbb,hm]
 refine zaH ?_
 refine br (fun c5=>?_) (fun c5=>?_)
 · refine ⟨Ext.refl w,?_⟩
   have hm:s∈kw:=by simp [kw, *]
   simp [zbb,hm]
 refine zaH ?_
 refine br (fun c6=>?_) (fun c6=>?_)
 · refine ⟨Ext.refl w,?_⟩
   have hm:s∈kw:=by simp [kw, *]
   simp [zbb,hm]
 refine zaH ?_
 refine br (fun c7=>?_) (fun c7=>?_)
 · refine ⟨Ext.refl w,?_⟩
   have hm:s∈kw:=by simp [kw, *]
   simp [zbb,hm]
 refine zaH ?_
 refine br (fun c8=>?_) (fun c8=>?_)
 · refine ⟨Ext.refl w,?_⟩
   have hm:s∈kw:=by simp [kw, *]
   simp [zbb,hm]
 refine zaH ?_
 refine br (fun c9=>?_) (fun c9=>?_)
 · refine ⟨Ext.refl w,?_⟩
   have hm:s∈kw:=by simp [kw, *]
   simp [zbb,hm]
 refine zaH ?_
 refine br (fun c10=>?_) (fun c10=>?_)
 · refine ⟨Ext.refl w,?_⟩
   have hm:s∈kw:=by simp [kw, *]
   simp [zbb,hm]
 refine zaH ?_
 refine br (fun c11=>?_) (fun c11=>?_)
 · refine ⟨Ext.refl w,?_⟩
   have hm:s∈kw:=by simp [kw, *]
   simp [zbb,hm]
 refine zaH ?_
 refine br (fun c12=>?_) (fun c12=>?_)
 · refine ⟨Ext.refl w,?_⟩
   have hm:s∈kw:=by simp [kw, *]
   simp [zbb,hm]
 refine zaH ?_
 refine br (fun c13=>?_) (fun c13=>?_)
 · refine ⟨Ext.refl w,?_⟩
   have hm:s∈kw:=by simp [kw, *]
   simp [zbb,hm]
 refine (zlv ).mono ?_
 rintro _ w1_ ⟨hx1_,rfl⟩
 refine ⟨hx1_,?_⟩
 have hm:s∉kw:=by simp [kw, *]
 simp [zbb,hm]
def F222 (a0:Value) (w:World) (R:VW):Prop:=
 rN 9 3 a0 w fun x5=>
 rB .lss 3 T0 U0 x5 (iV 1) w fun x6=>
 BR x6
 (R (Value.bool false) w)
 (rN 9 3 a0 w fun x9=>
 rB .gtr 3 T0 U0 x9 (iV 12) w fun x10=>
 BR x10
 (R (Value.bool false) w)
 (rD (Instr.index 9 a0 (iV 0)) w fun x14=>
 cL 253 [x14] w fun x15 w=>
 rD (Op.unary .not x15) w fun x16=>
 BR x16
 (R (Value.bool false) w)
 (LOOPI [3] [(iV 0)] w fun u4 w next4=>
 rN 9 3 a0 w fun x20=>
 rC (u4 3) x20 w fun x21=>
 BR x21
 (rD (Instr.index 9 a0 (u4 3)) w fun x26=>
 cL 253 [x26] w fun x27 w=>
 rD (Op.unary .not x27) w fun x28=>
 BR x28
 (rD (Instr.index 9 a0 (u4 3)) w fun x32=>
 cL 254 [x32] w fun x33 w=>
 rD (Op.unary .not x33) w fun x34=>
 BR x34
 (R (Value.bool false) w)
 (rA (u4 3) (iV 1) w fun x23=>
 next4 [x23] w))
 (rA (u4 3) (iV 1) w fun x23=>
 next4 [x23] w))
 (rB .eql 9 T0 U0 a0 (Value.string (ByteArray.mk #[97,110,100])) w fun x38=>
 BR x38
 (R (Value.bool false) w)
 (rB .eql 9 T0 U0 a0 (Value.string (ByteArray.mk #[99,97,108,108])) w fun x39=>
 BR x39
 (R (Value.bool false) w)
 (rB .eql 9 T0 U0 a0 (Value.string (ByteArray.mk #[101,108,115,101])) w fun x40=>
 BR x40
 (R (Value.bool false) w)
 (rB .eql 9 T0 U0 a0 (Value.string (ByteArray.mk #[103,108,111,98,97,108,115])) w fun x41=>
 BR x41
 (R (Value.bool false) w)
 (rB .eql 9 T0 U0 a0 (Value.string (ByteArray.mk #[105,102])) w fun x42=>
 BR x42
 (R (Value.bool false) w)
 (rB .eql 9 T0 U0 a0 (Value.string (ByteArray.mk #[108,111,99,107])) w fun x43=>
 BR x43
 (R (Value.bool false) w)
 (rB .eql 9 T0 U0 a0 (Value.string (ByteArray.mk #[108,111,99,107,115])) w fun x44=>
 BR x44
 (R (Value.bool false) w)
 (rB .eql 9 T0 U0 a0 (Value.string (ByteArray.mk #[110,111,116])) w fun x45=>
 BR x45
 (R (Value.bool false) w)
 (rB .eql 9 T0 U0 a0 (Value.string (ByteArray.mk #[112,114,111,99])) w fun x46=>
 BR x46
 (R (Value.bool false) w)
 (rB .eql 9 T0 U0 a0 (Value.string (ByteArray.mk #[115,107,105,112])) w fun x47=>
 BR x47
 (R (Value.bool false) w)
 (rB .eql 9 T0 U0 a0 (Value.string (ByteArray.mk #[115,112,97,119,110])) w fun x48=>
 BR x48
 (R (Value.bool false) w)
 (rB .eql 9 T0 U0 a0 (Value.string (ByteArray.mk #[117,110,108,111,99,107])) w fun x49=>
 BR x49
 (R (Value.bool false) w)
 (rB .eql 9 T0 U0 a0 (Value.string (ByteArray.mk #[119,104,105,108,101])) w fun x50=>
 BR x50
 (R (Value.bool false) w)
 (R (Value.bool true) w)))))))))))))))))
def cfg222:Cfg:=⟨extL,[],[(4,68719214604,[3])],[],[],[],[]⟩
theorem F222_call {a0:Value} {w:World} {R:VW} (h:F222 a0 w R):cL 222 [a0] w R:=co (g:=cfg222) Tryz.func222 (by kernel_rfl) (by kernel_rfl) (by kernel_rfl) h
theorem ze1 {w:World} {s:ByteArray}    :
   CALL Tryz.prog 222 [.string s] w fun r w'=>Ext w w'∧(r=.bool (zbb s)):=by
 refine F222_call ?_
 unfold F222
 refine zdN u9 ?_
 refine zah ?_
 refine br (fun c1=>?_) (fun c1=>?_)
 · refine ⟨Ext.refl w,?_⟩
   simp [zbb,zhd (s:=s) (by omega)]
 refine zdN u9 ?_
 refine zb9 ?_
 refine br (fun c2=>?_) (fun c2=>?_)
 · refine ⟨Ext.refl w,?_⟩
   simp [zbb,ziW (s:=s) (by omega)]
 refine zdk (i:=0) u9 (by omega) ?_
 refine (zhc ).mono ?_
 rintro _ w1_ ⟨hx1_,rfl⟩
 refine zar ?_
 refine br (fun c3=>?_) (fun c3=>?_)
 · refine ⟨hx1_,?_⟩
   simp [zbb,ziX (s:=s) (by omega) c3]
 refine zaq (s.size) (fun k us w'=>us=[.int .i64 (k:Int)]∧Ext w1_ w'∧(∀ b∈(bts s).take k,(zil b || zlu b)=true)) (0) (by omega) ⟨by simp,Ext.refl w1_,by simp⟩ ?_
 rintro k m4 uu4 w2_ hk4 ⟨hu,hx2_,hinv⟩
 simp only [List.map_cons,List.map_nil,List.cons.injEq,and_true] at hu
 try rw [hu]
 try clear hu
 refine zdN u9 ?_
 refine zah ?_
 refine br (fun c4=>?_) (fun c4=>?_)
 · refine zdk u9 (by omega) ?_
   refine (zhc ).mono ?_
   rintro _ w3_ ⟨hx3_,rfl⟩
   refine zar ?_
   refine br (fun c5=>?_) (fun c5=>?_)
   · refine zdk u9 (by omega) ?_
     refine (zjY ).mono ?_
     rintro _ w4_ ⟨hx4_,rfl⟩
     refine zar ?_
     refine br (fun c6=>?_) (fun c6=>?_)
     · refine ⟨(hx1_.trans (hx2_.trans (hx3_.trans hx4_))),?_⟩
       simp [zbb,zmv (s:=s) (by omega) c5 c6]
     refine zaf (by omega) ?_
     refine ⟨m4-1,by omega,k+1,by omega,by simp,(hx2_.trans (hx3_.trans hx4_)),?_⟩
     exact zeZ (by omega) hinv (.inr (by simp only [zlu,Decidable.not_not.1 c6,and_self,decide_true]))
   refine zaf (by omega) ?_
   refine ⟨m4-1,by omega,k+1,by omega,by simp,(hx2_.trans hx3_),?_⟩
   exact zeZ (by omega) hinv (.inl (by simp only [zil,Decidable.not_not.1 c5,and_self,decide_true]))
 refine zaH ?_
 refine br (fun c7=>?_) (fun c7=>?_)
 · refine ⟨(hx1_.trans hx2_),?_⟩
   have hm:s∈kw:=by simp only [kw,List.mem_cons, *,true_or,or_true]
   simp [zbb,hm]
 refine zaH ?_
 refine br (fun c8=>?_) (fun c8=>?_)
 · refine ⟨(hx1_.trans hx2_),?_⟩
   have hm:s∈kw:=by simp only [kw,List.mem_cons, *,true_or,or_true]
   simp [zbb,hm]
 refine zaH ?_
 refine br (fun c9=>?_) (fun c9=>?_)
 · refine ⟨(hx1_.trans hx2_),?_⟩
   have hm:s∈kw:=by simp only [kw,List.mem_cons, *,true_or,or_true]
   simp [zbb,hm]
 refine zaH ?_
 refine br (fun c10=>?_) (fun c10=>?_)
 · refine ⟨(hx1_.trans hx2_),?_⟩
   have hm:s∈kw:=by simp only [kw,List.mem_cons, *,true_or,or_true]
   simp [zbb,hm]
 refine zaH ?_
 refine br (fun c11=>?_) (fun c11=>?_)
 · refine ⟨(hx1_.trans hx2_),?_⟩
   have hm:s∈kw:=by simp only [kw,List.mem_cons, *,true_or,or_true]
   simp [zbb,hm]
 refine zaH ?_
 refine br (fun c12=>?_) (fun c12=>?_)
 · refine ⟨(hx1_.trans hx2_),?_⟩
   have hm:s∈kw:=by simp only [kw,List.mem_cons, *,true_or,or_true]
   simp [zbb,hm]
 refine zaH ?_
 refine br (fun c13=>?_) (fun c13=>?_)
 · refine ⟨(hx1_.trans hx2_),?_⟩
   have hm:s∈kw:=by simp only [kw,List.mem_cons, *,true_or,or_true]
   simp [zbb,hm]
 refine zaH ?_
 refine br (fun c14=>?_) (fun c14=>?_)
 · refine ⟨(hx1_.trans hx2_),?_⟩
   have hm:s∈kw:=by simp only [kw,List.mem_cons, *,true_or,or_true]
   simp [zbb,hm]
 refine zaH ?_
 refine br (fun c15=>?_) (fun c15=>?_)
 · refine ⟨(hx1_.trans hx2_),?_⟩
   have hm:s∈kw:=by simp only [kw,List.mem_cons, *,true_or,or_true]
   simp [zbb,hm]
 refine zaH ?_
 refine br (fun c16=>?_) (fun c16=>?_)
 · refine ⟨(hx1_.trans hx2_),?_⟩
   have hm:s∈kw:=by simp only [kw,List.mem_cons, *,true_or,or_true]
   simp [zbb,hm]
 refine zaH ?_
 refine br (fun c17=>?_) (fun c17=>?_)
 · refine ⟨(hx1_.trans hx2_),?_⟩
   have hm:s∈kw:=by simp only [kw,List.mem_cons, *,true_or,or_true]
   simp [zbb,hm]
 refine zaH ?_
 refine br (fun c18=>?_) (fun c18=>?_)
 · refine ⟨(hx1_.trans hx2_),?_⟩
   have hm:s∈kw:=by simp only [kw,List.mem_cons, *,true_or,or_true]
   simp [zbb,hm]
 refine zaH ?_
 refine br (fun c19=>?_) (fun c19=>?_)
 · refine ⟨(hx1_.trans hx2_),?_⟩
   have hm:s∈kw:=by simp only [kw,List.mem_cons, *,true_or,or_true]
   simp [zbb,hm]
 refine ⟨(hx1_.trans hx2_),?_⟩
 have hm:s∉kw:=by simp only [kw,List.mem_cons,List.not_mem_nil,or_false, *,not_false_eq_true]
 simp [zbb,hm,zkQ (by omega) (by omega) (Decidable.not_not.1 c3) (by omega) hinv]
end Go.Proofs.YtifonhplnmpgaaaGreat
