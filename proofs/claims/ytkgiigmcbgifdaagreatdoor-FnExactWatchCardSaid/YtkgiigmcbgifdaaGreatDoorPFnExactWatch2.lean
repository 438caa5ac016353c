/-
  Parts of the proof, put together by program.
-/
import Derived.Test.YtkgiigmcbgifdaaGreatDoorPFnExactWatch1
set_option maxRecDepth 20000
set_option linter.defProp false
set_option linter.unusedVariables false
set_option linter.unusedSimpArgs false
set_option linter.unusedSectionVars false
open Go renaming Value→vL,World→wD,Program→pG
namespace Go.Sh
open Go.RowKit (Below)
open Rep (rep)
variable {G G':List Nat} {b n n' o o':Nat} {w w':wD}
def OAt {α:Type} [Rep α] (G:List Nat) (w:wD) (b o:Nat) (x:α):Prop:=
 ∃ cs,rep G w cs x/\w.rangeAt b o cs/\G.Nodup/\Wr G w/\b∉G/\∃ c e,w.heap[b]?=some (.cells c e (0,0))
structure ChgAt (b o n:Nat) (G:List Nat) (w w':wD):Prop where
 chg:Chg (b :: G) w w'
 cell:∀ c e,w.heap[b]?=some (.cells c e (0,0))->∃ c',w'.heap[b]?=some (.cells c' e (0,0))/\∀ j,(j<o\/o+n<=j)->c'[j]?=c[j]?
def ChgAt.mono (h:ChgAt b o n G w w') (ho:o'<=o) (hn:o+n<=o'+n') (hG:∀ c∈G,c∈G'):ChgAt b o' n' G' w w':=
 ⟨h.chg.mono λx hx=>by
   rcases qaa.1 hx with rfl | hx
   . simp
   . exact qcd _ (hG x hx),λc e hc=>by
   obtain ⟨c',h1,h2⟩:=h.cell c e hc;exact ⟨c',h1,λj hj=>h2 j oo⟩⟩
section
variable {P:pG} {w w0:wD} {α β:Type} [Rep α] [Rep β]
def ChgAt.range {b o n o':Nat} {G:List Nat} {w':wD} {cs:List vL} (h:ChgAt b o n G w w') (hw:∃ c e,w.heap[b]?=some (.cells c e (0,0))) (hr:w.rangeAt b o' cs) (hd:o'+cs.length<=o\/o+n<=o'):w'.rangeAt b o' cs:=by
 obtain ⟨c,e,hc⟩:=hw;obtain ⟨_,h1,h2⟩:=h.cell c e hc;intro j v hv;have hj:j<cs.length:=(List.getElem?_eq_some_iff.1 hv).1;have:=hr j v hv;simp only [World.cell?,hc,h1] at this ⊢;simp only [qcm,qa2,if_false] at this ⊢;rw [h2 (o'+j) oo];exact this
def OAt.at {G:List Nat} {b o:Nat} {x:α} (h:OAt G w b o x):At w b o x:=by
 obtain ⟨cs,hr,ha,_⟩:=h;exact ⟨G,cs,hr,ha⟩
def OAt.lt {G:List Nat} {b o:Nat} {x:α} (h:OAt G w b o x):b<w.heap.size:=by
 obtain ⟨_,_,_,_,_,_,_,_,hc⟩:=h;exact (Array.getElem?_eq_some_iff.1 hc).1
structure Lens (H:List Nat->wD->α->Prop) (S:List Nat) (w:wD) (b o:Nat) (G:List Nat) (y:β) (upd:β->α):Prop where
 here:OAt G w b o y
 sub:∀ c∈b :: G,c∈S
 back:∀ w' G' y',ChgAt b o (Rep.size β) G w w'->OAt G' w' b o y'->(∀ c∈G',c∈G\/c∉S)->∃ F',H F' w' (upd y')/\∀ c∈F',c∈S\/c∈G'
abbrev MH (v:vL):List Nat->wD->α->Prop:=λF w x=>Mine F w v x
abbrev VH (g:Nat):List Nat->wD->α->Prop:=λF w x=>OAt F w g 0 x
def Lens.var {F:List Nat} {g:Nat} {x:α} (h:OAt F w g 0 x):Lens (VH g) (g :: F) w g 0 F x (λy=>y):=
 ⟨h,λ_ h=>h,λw' G' y' _ hO _=>⟨G',hO,λc hc=>.inr hc⟩⟩
def zpJ {F1 F2 G G':List Nat} {b:Nat} (h:(b :: (F1++(G++F2))).Nodup) (hG:G'.Nodup) (hs:∀ c∈G',c∈G\/c∉b :: (F1++(G++F2))):(b :: (F1++(G'++F2))).Nodup:=by
 rw [qaR] at h ⊢;obtain ⟨hb,h⟩:=h;rw [qav] at h ⊢;obtain ⟨h1,h2,h3⟩:=h;rw [qav] at h2 ⊢;obtain ⟨_,h5,h6⟩:=h2;refine ⟨λhm=>?_,h1,⟨hG,h5,λa ha c hc e=>?_⟩,λa ha c hc e=>?_⟩
 . rcases qae.1 hm with hm | hm
   . exact hb (by simp [hm])
   rcases qae.1 hm with hm | hm
   . rcases hs _ hm with h' | h'
     . exact hb (by simp [h'])
     exact h' ss
   exact hb (by simp [hm])
 . subst e;rcases hs _ ha with h' | h'
   . exact h6 a h' a hc rfl
   exact h' (by simp [hc])
 subst e;rcases qae.1 hc with hc | hc
 . rcases hs _ hc with h' | h'
   . exact h3 a ha a (by simp [h']) rfl
   exact h' (by simp [ha])
 exact h3 a ha a (by simp [hc]) rfl
def zDy {F:List Nat} {v:vL} {l:List α} {k:Nat} (hm:Mine F w v l) (hk:k<l.length) :
   ∃ b a cap G,v=.slice (some ⟨b,a,none⟩) l.length cap/\Lens (MH v) F w b (a+k*Rep.size α) G l[k] (λy=>l.set k y):=by
 obtain ⟨⟨_,⟨a,cap,_,_,rfl,h1,h2,hc,h4⟩,rfl⟩,hn,hw⟩:=hm;rcases h4 with ⟨rfl,_⟩ | ⟨b,o,rfl,rfl,gg,_⟩
 . simp at hk
 have e:l=l.take k++(l[k] :: l.drop (k+1)):=by simp
 have gb:=hc;rw [e] at gb;obtain ⟨F1,_,x1,_,gh,gi,c1,gj⟩:=Cells.split gb;obtain ⟨G,F2,cg,x2,rfl,rfl,hg,c2⟩:=gj;subst gh gi;have gc:x1.length=k*Rep.size α:=by rw [Cells.len c1,qao];congr 1;omega
 have hlg:=Rep.len hg;have gl:=hn;rw [qaR] at hn;obtain ⟨g2,hn⟩:=hn;rw [qav] at hn;obtain ⟨_,gd,gn⟩:=hn;rw [qav] at gd;obtain ⟨gp,_,gq⟩:=gd;obtain ⟨r1,r2⟩:=zaP gg;obtain ⟨rg,r3⟩:=zaP r2;rw [gc] at rg r3;have g3:∃ c e,w.heap[b]?=some (.cells c e (0,0)):=hw b ss;refine ⟨b,o,cap,G,rfl,⟨cg,hg,rg,gp,hw.sub sd,λh=>g2 (by simp [h]),g3⟩,by simp +contextual,λw' G' y' g1 hO hs=>?_⟩;obtain ⟨g4,gf,gr,g5,g9,_,g0⟩:=hO;have gs:=Rep.len gf
 have D:∀ c∈F1,w'.heap[c]?=w.heap[c]?:=λc O=>by
   refine g1.chg.block c (Cells.lt c1 c O) λhm=>?_;rcases qaa.1 hm with rfl | hm
   . exact g2 (by simp [O])
   exact gn c O c (by simp [hm]) rfl
 have M:∀ c∈F2,w'.heap[c]?=w.heap[c]?:=λc O=>by
   refine g1.chg.block c (Cells.lt c2 c O) λhm=>?_;rcases qaa.1 hm with rfl | hm
   . exact g2 (by simp [O])
   exact gq c hm c O rfl
 refine ⟨b :: (F1++(G'++F2)),⟨⟨_,⟨some ⟨b,o,none⟩,cap,F1++(G'++F2),x1++(g4++x2),ss,by simpa using h1,h2,?_,.inr ⟨b,o,rfl,rfl,?_,?_⟩⟩,rfl⟩,zpJ gl g5 hs,?_⟩,?_⟩
 . have:l.set k y'=l.take k++(y' :: l.drop (k+1)):=by rw [qbB];simp [hk]
   rw [this];exact Cells.append (Cells.keep c1 D) ⟨G',F2,g4,x2,rfl,rfl,gf,Cells.keep c2 M⟩
 . refine zfv (g1.range g3 r1 (.inl oo)) (zfv (by rw [gc];exact gr) ?_);have e3:o+x1.length+g4.length=o+k*Rep.size α+cg.length:=oo;rw [e3];exact g1.range g3 r3 (.inr oo)
 . obtain ⟨c,e,h⟩:=g0;exact (Array.getElem?_eq_some_iff.1 h).1
 . intro c C;rcases qaa.1 C with rfl | C
   . exact g0
   rcases qae.1 C with C | C
   . exact (hw.sub (G:=F1) sd).keep D c C
   rcases qae.1 C with C | C
   . exact g9 c C
   exact (hw.sub (G:=F2) sd).keep M c C
 intro c C;rcases qaa.1 C with rfl | C
 . exact .inl ss
 rcases qae.1 C with C | C
 . exact .inl (by simp [C])
 rcases qae.1 C with C | C
 . exact .inr C
 exact .inl (by simp [C])
section pair
variable {γ:Type}
def Lens.fst {H:List Nat->wD->γ->Prop} {F:List Nat} {b o:Nat} {G:List Nat} {p:α×β} {upd:α×β->γ} (h:Lens H F w b o G p upd) :
   ∃ G1,Lens H F w b o G1 p.1 (λy=>upd (y,p.2)):=by
 obtain ⟨⟨_,⟨G1,G2,c1,c2,rfl,rfl,h1,h2⟩,hr,hn,hw,hb,g9⟩,D,g0⟩:=h;obtain ⟨r1,r2⟩:=zaP hr;have gb:=Rep.len h1;have:=Rep.len h2;have:=hn;rw [qav] at hn;obtain ⟨gg,gh,gc⟩:=hn;simp only [qae,not_or] at hb;refine ⟨G1,⟨c1,h1,r1,gg,hw.sub sd,hb.1,g9⟩,λc hc=>D c (by rcases qaa.1 hc with rfl | hc<;>simp_all),λw' G' y' g1 hO hs=>?_⟩;obtain ⟨gd,gf,gi,g2,g3,g4,g5⟩:=hO
 have C:∀ c∈G2,w'.heap[c]?=w.heap[c]?:=λc hc=>by
   refine g1.chg.block c (Rep.lt h2 c hc) λhm=>?_;rcases qaa.1 hm with rfl | hm
   . exact hb.2 hc
   exact gc c hm c hc rfl
 have gj:∀ c∈G'++G2,c∈G1++G2\/c∉F:=λc hc=>by
   rcases qae.1 hc with hc | hc
   . rcases hs c hc with h | h
     . exact .inl (by simp [h])
     exact .inr h
   exact .inl (by simp [hc])
 have gl:(G'++G2).Nodup:=by
   rw [qav];refine ⟨g2,gh,λa ha c hc e=>?_⟩;subst e;rcases hs a ha with h | h
   . exact gc a h a hc rfl
   exact h (D a (by simp [hc]))
 obtain ⟨F',hM,gn⟩:=g0 w' (G'++G2) (y',p.2) (g1.mono (lr _) (by simp only [Rep.size];omega) sd)
   ⟨gd++c2,⟨G',G2,gd,c2,rfl,rfl,gf,Rep.keep h2 C⟩,zfv gi (by
     rw [Rep.len gf,<-gb];exact g1.range g9 r2 (.inr (by rw [gb];exact qaE _))),gl,g3.append ((hw.sub sd).keep C),by simp [g4,hb.2],g5⟩ gj
 refine ⟨F',hM,λc hc=>?_⟩;rcases gn c hc with h | h
 . exact .inl h
 rcases qae.1 h with h | h
 . exact .inr h
 exact .inl (D c (by simp [h]))
def Lens.snd {H:List Nat->wD->γ->Prop} {F:List Nat} {b o:Nat} {G:List Nat} {p:α×β} {upd:α×β->γ} (h:Lens H F w b o G p upd) :
   ∃ G1,Lens H F w b (o+Rep.size α) G1 p.2 (λy=>upd (p.1,y)):=by
 obtain ⟨⟨_,⟨G1,G2,c1,c2,rfl,rfl,h1,h2⟩,hr,hn,hw,hb,gb⟩,D,g0⟩:=h;obtain ⟨r1,r2⟩:=zaP hr;have g1:=Rep.len h1;have:=Rep.len h2;have:=hn;rw [qav] at hn;obtain ⟨gf,gg,gc⟩:=hn;simp only [qae,not_or] at hb;rw [g1] at r2;refine ⟨G2,⟨c2,h2,r2,gg,hw.sub sd,hb.2,gb⟩,λc hc=>D c (by rcases qaa.1 hc with rfl | hc<;>simp_all),λw' G' y' g2 hO hs=>?_⟩;obtain ⟨gd,gh,gi,g3,g4,g5,g9⟩:=hO
 have C:∀ c∈G1,w'.heap[c]?=w.heap[c]?:=λc hc=>by
   refine g2.chg.block c (Rep.lt h1 c hc) λhm=>?_;rcases qaa.1 hm with rfl | hm
   . exact hb.1 hc
   exact gc c hc c hm rfl
 have gj:∀ c∈G1++G',c∈G1++G2\/c∉F:=λc hc=>by
   rcases qae.1 hc with hc | hc
   . exact .inl (by simp [hc])
   rcases hs c hc with h | h
   . exact .inl (by simp [h])
   exact .inr h
 have gl:(G1++G').Nodup:=by
   rw [qav];refine ⟨gf,g3,λa ha c hc e=>?_⟩;subst e;rcases hs a hc with h | h
   . exact gc a ha a h rfl
   exact h (D a (by simp [ha]))
 obtain ⟨F',hM,gn⟩:=g0 w' (G1++G') (p.1,y') (g2.mono oo (by simp only [Rep.size];omega) sd)
   ⟨c1++gd,⟨G1,G',c1,gd,rfl,rfl,Rep.keep h1 C,gh⟩,zfv (g2.range gb r1 (.inl (by rw [g1];exact qaE _))) (by rw [g1];exact gi),gl,((hw.sub sd).keep C).append g4,by simp [hb.1,g5],g9⟩ gj
 refine ⟨F',hM,λc hc=>?_⟩;rcases gn c hc with h | h
 . exact .inl h
 rcases qae.1 h with h | h
 . exact .inl (D c (by simp [h]))
 exact .inr h
def Lens.row {H:List Nat->wD->γ->Prop} {F:List Nat} {b o:Nat} {G:List Nat} {l:List β} {upd:List β->γ} (h:Lens H F w b o G l upd) :
   ∃ u,Mine G w u l/\w.rangeAt b o [u]/\(∀ c∈G,c∈F) /\
     ∀ w' G' l',Chg G w w'->Mine G' w' u l'->(∀ c∈G',c∈G\/c∉F)->∃ F',H F' w' (upd l')/\∀ c∈F',c∈F\/c∈G':=by
 obtain ⟨⟨cs,g0,hr,hn,hw,hb,g9⟩,g1,g2⟩:=h;have gd:∃ u,cs=[u]:=by obtain ⟨a,cap,Fi,xs,rfl,_⟩:=g0;exact ⟨_,rfl⟩
 obtain ⟨u,rfl⟩:=gd;refine ⟨u,⟨⟨_,g0,rfl⟩,hn,hw⟩,hr,λc hc=>g1 c (by simp [hc]),λw' G' l' gb hM hs=>?_⟩;have gf:b<w.heap.size:=by obtain ⟨c,e,h⟩:=g9;exact (Array.getElem?_eq_some_iff.1 h).1
 have g3:w'.heap[b]?=w.heap[b]?:=gb.block b gf hb;obtain ⟨⟨gg,C,gc⟩,gh,gi⟩:=hM
 have g4:gg=[u]:=by
   obtain ⟨a,cap,Fi,xs,rfl,_⟩:=C;simp only [mkv,Rep.agg,cond_false,qbO] at gc;rw [gc]
 subst g4
 have g5:b∉G':=λhm=>by
   rcases hs b hm with h | h
   . exact hb h
   exact h (g1 b ss)
 exact g2 w' G' l' ⟨gb.mono sd,λc e hc=>⟨c,by rw [g3];exact hc,λ_ _=>rfl⟩⟩
   ⟨_,C,zbx hr g3,gh,gi,g5,by obtain ⟨c,e,h⟩:=g9;exact ⟨c,e,by rw [g3];exact h⟩⟩ hs
end pair
def zsO {t by_ b o:Nat} {G:List Nat} {y y':β} {u:vL} {G':List Nat} {K:wD->Prop} (ht:tyI P t=some (Rep.size β,by_,Rep.agg β)) (h:OAt G w b o y)
   (hu:OwnF G' w u y') (hn:G'.Nodup) (g3:Wr G' w) (hb:b∉G') (k:∀ w',ChgAt b o (Rep.size β) [] w w'->OAt G' w' b o y'->K w'):OPU P (Instr.storeAt t (.pointer (some ⟨b,o,none⟩)) u) w K:=by
 obtain ⟨us,hr,rfl⟩:=hu;obtain ⟨cs,g4,ha,_,_,_,c,e,hc⟩:=h;have hl0:=Rep.len g4;have hlu:=Rep.len hr;have g5:=Rep.pos (α:=β)
 have g0:∀ j,j<cs.length->c[o+j]?=cs[j]?:=by
   intro j hj;have:=ha j cs[j] (by simp [hj]);simpa [World.cell?,hc,hj] using this
 have g1:o+Rep.size β<=c.size:=by
   have hj:cs.length-1<cs.length:=oo;have:=g0 (cs.length-1) hj;rw [List.getElem?_eq_getElem hj] at this;have:=(Array.getElem?_eq_some_iff.1 this).1;omega
 have g9:=zey (P:=P) (e:=e) (cur:=c) ht hr hc g1;have D:=setRow_heap w b c ((c.toList.take o++us++c.toList.drop (o+us.length)).toArray) e _ hc;refine ⟨_,g9,k _ ⟨(zec w b _).mono ss,λ_ _ g2=>?_⟩ ?_⟩
 . rw [hc] at g2;simp only [qaq,Obj.cells.injEq,and_true] at g2;obtain ⟨rfl,rfl⟩:=g2;refine ⟨_,D,λj hj=>?_⟩;simp only [List.getElem?_toArray];rcases hj with hj | hj
   . rw [qaA,List.getElem?_append_left (by simp only [qao,qaK];omega),List.getElem?_take,qah hj,Array.getElem?_toList]
   rw [List.getElem?_append_right (by simp only [qab,qao,qaK];omega),List.getElem?_drop,Array.getElem?_toList];congr 1;simp only [qab,qao,qaK];omega
 have C:∀ x∈G',(w.setRow b ((c.toList.take o++us++c.toList.drop (o+us.length)).toArray)).heap[x]?=w.heap[x]?:=λx hx=>
   (zec w b _).block x (g3.lt x hx) (by simp;exact λe=>hb (e▸hx))
 refine ⟨us,Rep.keep hr C,λj _ hv=>?_,hn,g3.keep C,hb,_,e,D⟩;have hj:j<us.length:=(List.getElem?_eq_some_iff.1 hv).1;simp only [World.cell?,D];simp only [qcm,qa2,if_false,List.getElem?_toArray];rw [qaA,List.getElem?_append_right (by simp only [qao,qaK];omega),List.getElem?_append_left (by simp only [qao,qaK];omega),<-hv];congr 1;simp only [qao,qaK];omega
def zkE {t by_ b o:Nat} {H:List Nat->wD->α->Prop} {F G:List Nat} {y y':β} {upd:β->α} {u:vL} {G':List Nat} {K:wD->Prop} (ht:tyI P t=some (Rep.size β,by_,Rep.agg β)) (h:Lens H F w b o G y upd)
   (hu:Mine G' w u y') (hs:∀ c∈G',c∈G\/c∉F) (k:∀ w',Chg F w w'->(∃ F',H F' w' (upd y')/\∀ c∈F',c∈F\/c∈G')->K w'):OPU P (Instr.storeAt t (.pointer (some ⟨b,o,none⟩)) u) w K:=by
 have g0:b∉G':=λhm=>by
   rcases hs b hm with h' | h'
   . obtain ⟨_,_,_,_,_,hb,_⟩:=h.here;exact hb h'
   exact h' (h.sub b ss)
 refine zsO ht h.here hu.own hu.nodup hu.wr g0 λw' g1 hO=>k w' (g1.chg.mono λc hc=>h.sub c (by simp at hc;simp [hc])) ?_;obtain ⟨F',h1,h2⟩:=h.back w' G' y' (g1.mono (lr _) (lr _) ss) hO hs;exact ⟨F',h1,h2⟩
end
class RepZ (α:Type) [Rep α] where
 zv:α
 zc:List vL
 zr:∀ w,rep [] w zc zv
instance:RepZ Int:=⟨0,[.int .i64 0],λ_=>⟨rfl,rfl,by unfold I64;omega⟩⟩
instance:RepZ Bool:=⟨false,[.bool false],λ_=>⟨rfl,rfl⟩⟩
instance:RepZ ByteArray:=⟨ByteArray.empty,[.string ByteArray.empty],λ_=>⟨rfl,rfl,qbt _⟩⟩
instance {α:Type} [Rep α]:RepZ (List α):=⟨[],[.slice none 0 0],λ_=>⟨none,0,[],[],rfl,lr _,z0 _,⟨rfl,rfl⟩,.inl ⟨rfl,rfl⟩⟩⟩
instance {α β:Type} [Rep α] [Rep β] [RepZ α] [RepZ β]:RepZ (α×β):=⟨((RepZ.zv:α),(RepZ.zv:β)),RepZ.zc α++RepZ.zc β,λw=>⟨[],[],_,_,rfl,rfl,RepZ.zr w,RepZ.zr w⟩⟩
def OwnI {α:Type} [Rep α] (lo hi:Nat) (w:wD) (v:vL) (x:α):Prop:=∃ F,Mine F w v x/\∀ b∈F,lo<=b/\b<hi
structure ChgI (lo hi:Nat) (w w':wD):Prop where
 os:w'.os=w.os
 tape:w'.tape=w.tape
 output:w'.output=w.output
 size:w.heap.size<=w'.heap.size
 block:∀ b,b<w.heap.size->(b<lo\/hi<=b)->w'.heap[b]?=w.heap[b]?
section
variable {w w':wD} {α:Type} [Rep α] {lo hi a b:Nat} {v:vL} {x:α}
def Chg.toI {F:List Nat} (h:Chg F w w') (hF:∀ b∈F,lo<=b/\b<hi):ChgI lo hi w w':=
 ⟨h.os,h.tape,h.output,h.size,λi hi' ho=>h.block i hi' λe=>by have:=hF i e;omega⟩
def Ext.toI (h:Ext w w'):ChgI lo hi w w':=⟨h.os,h.tape,h.output,h.size,λi hi' _=>h.block i hi'⟩
def ChgI.refl (w:wD):ChgI lo hi w w:=⟨rfl,rfl,rfl,lr _,λ_ _ _=>rfl⟩
def ChgI.trans {w'':wD} (h:ChgI lo hi w w') (k:ChgI lo hi w' w''):ChgI lo hi w w'':=
 ⟨k.os.trans h.os,k.tape.trans h.tape,k.output.trans h.output,qal h.size k.size,λi hi' ho=>(k.block i (qan hi' h.size) ho).trans (h.block i hi' ho)⟩
def ChgI.mono {lo' hi':Nat} (h:ChgI lo hi w w') (h1:lo'<=lo) (h2:hi<=hi'):ChgI lo' hi' w w':=
 ⟨h.os,h.tape,h.output,h.size,λi hi' ho=>h.block i hi' oo⟩
def Ext.chgI {c:wD} (h:Ext w w') (k:ChgI lo hi w' c) (hl:w.heap.size<=lo):Ext w c:=
 ⟨k.os.trans h.os,k.tape.trans h.tape,k.output.trans h.output,qal h.size k.size,λi hi'=>(k.block i (qan hi' h.size) oo).trans (h.block i hi')⟩
def Own.toI (h:Own lo w v x):OwnI lo w.heap.size w v x:=by
 obtain ⟨F,hm,hl⟩:=h;exact ⟨F,hm,λb hb=>⟨hl b hb,hm.lt b hb⟩⟩
def OwnI.own (h:OwnI lo hi w v x):Own lo w v x:=by
 obtain ⟨F,hm,hl⟩:=h;exact ⟨F,hm,λb hb=>(hl b hb).1⟩
def OwnI.is (h:OwnI lo hi w v x):Is w v x:=by obtain ⟨_,hm,_⟩:=h;exact hm.is
def OwnI.ext (h:OwnI lo hi w v x) (hx:Ext w w'):OwnI lo hi w' v x:=by obtain ⟨F,hm,hl⟩:=h;exact ⟨F,hm.ext hx,hl⟩
def OwnI.chg (h:OwnI lo hi w v x) (hc:ChgI a b w w') (hd:hi<=a\/b<=lo):OwnI lo hi w' v x:=by
 obtain ⟨F,hm,hl⟩:=h;exact ⟨F,hm.keep λc g0=>hc.block c (hm.lt c g0) (by have:=hl c g0;omega),hl⟩
def OwnI.mono {g0 g1:Nat} (h:OwnI lo hi w v x) (h1:g0<=lo) (h2:hi<=g1):OwnI g0 g1 w v x:=by
 obtain ⟨F,hm,hl⟩:=h;exact ⟨F,hm,λb hb=>by have:=hl b hb;omega⟩
def VarI {α:Type} [Rep α] (lo hi:Nat) (w:wD) (g:Nat) (x:α):Prop:=∃ F,OAt F w g 0 x/\∀ b∈F,lo<=b/\b<hi
def OAt.keep {F:List Nat} {g o:Nat} (h:OAt F w g o x) (hk:∀ c∈g :: F,w'.heap[c]?=w.heap[c]?):OAt F w' g o x:=by
 obtain ⟨cs,hr,ha,hn,hw,hb,c,e,hc⟩:=h;have hg:=hk g ss;exact ⟨cs,Rep.keep hr λb hb=>hk b (by simp [hb]),zbx ha hg,hn,hw.keep λb hb=>hk b (by simp [hb]),hb,c,e,by rw [hg];exact hc⟩
def VarI.lt {g:Nat} (h:VarI lo hi w g x):g<w.heap.size:=by obtain ⟨_,h,_⟩:=h;exact h.lt
def OAt.lts {F:List Nat} {g o:Nat} (h:OAt F w g o x):∀ c∈g :: F,c<w.heap.size:=by
 intro c hc;rcases qaa.1 hc with rfl | hc
 . exact h.lt
 obtain ⟨_,hr,_⟩:=h;exact Rep.lt hr c hc
def VarI.ext {g:Nat} (h:VarI lo hi w g x) (hx:Ext w w'):VarI lo hi w' g x:=by
 obtain ⟨F,h,hl⟩:=h;exact ⟨F,h.keep λc hc=>hx.heap (h.lts c hc),hl⟩
def VarI.chg {g:Nat} (h:VarI lo hi w g x) (hc:ChgI a b w w') (hd:hi<=a\/b<=lo) (hg:g<a\/b<=g):VarI lo hi w' g x:=by
 obtain ⟨F,h,hl⟩:=h;refine ⟨F,h.keep λc g0=>hc.block c (h.lts c g0) ?_,hl⟩;rcases qaa.1 g0 with rfl | g0
 . omega
 have:=hl c g0;omega
def VarI.at {g:Nat} (h:VarI lo hi w g x):At w g 0 x:=by obtain ⟨_,h,_⟩:=h;exact h.at
def VarI.own {g:Nat} (h:VarI lo hi w g x):∃ v,OwnI lo hi w v x/\∃ cs F,Rep.rep F w cs x/\w.rangeAt g 0 cs/\v=mkv α cs:=by
 obtain ⟨F,⟨cs,hr,ha,hn,hw,_⟩,hl⟩:=h;exact ⟨mkv α cs,⟨F,⟨⟨cs,hr,rfl⟩,hn,hw⟩,hl⟩,cs,F,hr,ha,rfl⟩
section
variable {P:pG} {w0:wD}
def zck [RepZ α] {e:TypeId} {K:vL->wD->Prop} (hz:zcq P e=some (RepZ.zc α))
   (k:∀ w',Ext w w'->VarI w'.heap.size w'.heap.size w' w.heap.size ((RepZ.zv:α))->K (.pointer (some ⟨w.heap.size,0,none⟩)) w'):OP P (Instr.alloc e true (.tuple #[])) w K:=
 za1 hz λw' hx hB=>k w' hx ⟨[],⟨RepZ.zc α,RepZ.zr w',hB.range,qas,Wr.nil _,ss,_,_,hB⟩,ss⟩
def zdG {t by_ g:Nat} {K:vL->Prop} (ht:tyI P t=some (Rep.size α,by_,Rep.agg α)) (h:VarI lo hi w0 g x) (hx:Ext w0 w) (k:∀ v,OwnI lo hi w0 v x->K v) :
   RD P (Instr.loadAt t (.pointer (some ⟨g,0,none⟩))) w K:=by
 obtain ⟨v,ho,_,_,hr,ha,rfl⟩:=h.own;exact za9 (λ_ g0=>zeb ht (zb7 hr (hx.t g0)) (zbw ha (hx.t g0))) (k _ ho)
def zhA {t by_ g:Nat} {K:vL->Prop} (ht:tyI P t=some (Rep.size α,by_,Rep.agg α)) (h:VarI lo hi w0 g x) (hx:Ext w0 w) (k:∀ v,OwnI lo hi w0 v x->K v) :
   RD P (zbr t (.pointer (some ⟨g,0,none⟩))) w K:=by
 obtain ⟨v,ho,_,_,hr,ha,rfl⟩:=h.own;refine za9 (λ_ g0=>?_) (k _ ho);have:=zeb ht (zb7 hr (hx.t g0)) (zbw ha (hx.t g0));simpa [zbr,asAddr,Instr.loadAt,Instr.sureAddr] using this
def zsP {β:Type} [Rep β] {t by_ g o:Nat} {F G:List Nat} {y y':β} {upd:β->α} {u:vL} {lo2 hi2:Nat} {K:wD->Prop} (ht:tyI P t=some (Rep.size β,by_,Rep.agg β)) (hL:Lens (VH g) (g :: F) w g o G y upd) (hF:∀ b∈F,lo<=b/\b<hi)
   (hu:OwnI lo2 hi2 w u y') (h1:hi<=lo2) (h2:g<lo2) (k:∀ w',ChgI g (g+1) w w'->(∀ lo',lo'<=lo->lo'<=lo2->∀ hi',hi<=hi'->hi2<=hi'->VarI lo' hi' w' g (upd y'))->K w'):OPU P (Instr.storeAt t (.pointer (some ⟨g,o,none⟩)) u) w K:=by
 obtain ⟨G',hM,g0⟩:=hu
 have hs:∀ c∈G',c∈G\/c∉g :: F:=λc hc=>.inr λhm=>by
   have:=g0 c hc;rcases qaa.1 hm with rfl | hm
   . omega
   have:=hF c hm;omega
 have g1:g∉G':=λh=>by have:=g0 g h;omega
 refine zsO ht hL.here hM.own hM.nodup hM.wr g1 λw' g2 hO=>k w' (g2.chg.toI ss) ?_;obtain ⟨F',h3,h4⟩:=hL.back w' G' y' (g2.mono (lr _) (lr _) ss) hO hs;intro lo' _ _ hi' _ _;refine ⟨F',h3,λc hc=>?_⟩;rcases h4 c hc with h | h
 . rcases qaa.1 h with rfl | h
   . obtain ⟨_,_,_,_,_,hn,_⟩:=h3;exact absurd hc hn
   have:=hF c h;omega
 have:=g0 c h;omega
def zb0 {t by_ g:Nat} {x0:α} {g4 g5:Nat} {u:vL} {K:wD->Prop} (ht:tyI P t=some (Rep.size α,by_,Rep.agg α)) (hv:VarI g4 g5 w g x0) (hu:OwnI lo hi w u x) (hg:g<lo\/hi<=g)
   (k:∀ w',ChgI g (g+1) w w'->VarI lo hi w' g x->K w'):OPU P (Instr.storeAt t (.pointer (some ⟨g,0,none⟩)) u) w K:=by
 obtain ⟨_,hO,_⟩:=hv;obtain ⟨G',hM,g1⟩:=hu;have g0:g∉G':=λh=>by have:=g1 g h;omega
 exact zsO ht hO hM.own hM.nodup hM.wr g0 λw' g2 g3=>k w' (g2.chg.toI ss) ⟨G',g3,g1⟩
end
def ownI_int {x:Int} (h:I64 x):OwnI lo hi w (.int .i64 x) x:=⟨[],⟨⟨_,⟨rfl,rfl,h⟩,rfl⟩,qas,Wr.nil w⟩,ss⟩
def zgC {x:ByteArray} (h:x.size<=maxLen):OwnI lo hi w (.string x) x:=⟨[],⟨⟨_,⟨rfl,rfl,h⟩,rfl⟩,qas,Wr.nil w⟩,ss⟩
end
end Go.Sh
namespace Go.Sh
open Rep (rep)
variable {b o:Nat} {w:wD}
section
variable {w:wD} {b o:Nat}
def zaQ {α β:Type} [Rep α] [Rep β] {F G:List Nat} {c1 c2:List vL} {x:α} {y:β} (h1:rep F w c1 x) (h2:rep G w c2 y):rep (F++G) w (c1++c2) (x,y):=⟨F,G,c1,c2,rfl,rfl,h1,h2⟩
def zcs {α:Type} [Rep α] (ha:Rep.agg α=false) {F:List Nat} {v:vL} {x:α} (h:OwnF F w v x):rep F w [v] x:=by
 obtain ⟨_,hr,rfl⟩:=h;have hl:=Rep.len hr;rw [Rep.sz ha] at hl;obtain ⟨_,rfl⟩:=qbf.1 hl;simpa [mkv,ha] using hr
end
structure DRace where
 g:Int
 a:Int
 b:Int
def DRace.ext_iff {x y:DRace}:x=y↔(x.g=y.g/\x.a=y.a/\x.b=y.b):=⟨λh=>by rw [h];exact ⟨rfl,rfl,rfl⟩,λh=>by obtain ⟨h0,h1,h2⟩:=h;cases x;cases y;simp only at h0 h1 h2;simp only [h0,h1,h2]⟩
instance:DecidableEq DRace:=λx y=>decidable_of_iff (x.g=y.g/\x.a=y.a/\x.b=y.b) DRace.ext_iff.symm
instance:Rep DRace:=Rep.via λx=>(x.g,x.a,x.b)
def zeg {x:DRace} (h:At w b o x):At w b (o+0) x.g:=zcB (α:=Int) (β:=Int×Int) (p:=(x.g,x.a,x.b)) h
def ze4 {x:DRace} (h:At w b o x):At w b (o+1) x.a:=zcB (α:=Int) (β:=Int) (p:=(x.a,x.b)) (zbi (α:=Int) (β:=Int×Int) (p:=(x.g,x.a,x.b)) h)
def zhB {x:DRace} (h:At w b o x):At w b (o+2) x.b:=zbi (α:=Int) (β:=Int) (p:=(x.a,x.b)) (zbi (α:=Int) (β:=Int×Int) (p:=(x.g,x.a,x.b)) h)
instance:RepZ DRace:=⟨⟨(RepZ.zv:Int),(RepZ.zv:Int),(RepZ.zv:Int)⟩,RepZ.zc (Int×Int×Int),λw=>RepZ.zr (α:=Int×Int×Int) w⟩
instance:Flat DRace:=⟨λh=>Flat.flat (α:=Int×Int×Int) h⟩
structure DState where
 vars:List Int
 owner:List Int
 stacks:List (List Int)
def DState.ext_iff {x y:DState}:x=y↔(x.vars=y.vars/\x.owner=y.owner/\x.stacks=y.stacks):=⟨λh=>by rw [h];exact ⟨rfl,rfl,rfl⟩,λh=>by obtain ⟨h0,h1,h2⟩:=h;cases x;cases y;simp only at h0 h1 h2;simp only [h0,h1,h2]⟩
instance:DecidableEq DState:=λx y=>decidable_of_iff (x.vars=y.vars/\x.owner=y.owner/\x.stacks=y.stacks) DState.ext_iff.symm
instance:Rep DState:=Rep.via λx=>(x.vars,x.owner,x.stacks)
instance:RepZ DState:=⟨⟨(RepZ.zv:List Int),(RepZ.zv:List Int),(RepZ.zv:List (List Int))⟩,RepZ.zc ((List Int)×(List Int)×(List (List Int))),λw=>RepZ.zr (α:=(List Int)×(List Int)×(List (List Int))) w⟩
section
variable {w:wD} {b o:Nat}
def zjB {v:vL} {x:DRace}:Is w v x↔v=.agg #[.int .i64 x.g,.int .i64 x.a,.int .i64 x.b]/\I64 x.g/\I64 x.a/\I64 x.b:=by
 constructor
 . rintro ⟨_,_,⟨_,_,_,_,rfl,rfl,⟨rfl,rfl,h1⟩,⟨_,_,_,_,rfl,rfl,⟨rfl,rfl,h2⟩,⟨rfl,rfl,h3⟩⟩⟩,rfl⟩;exact ⟨rfl,h1,h2,h3⟩
 rintro ⟨rfl,h1,h2,h3⟩;exact ⟨[],[.int .i64 x.g,.int .i64 x.a,.int .i64 x.b],⟨[],[],[.int .i64 x.g],[.int .i64 x.a,.int .i64 x.b],rfl,rfl,⟨rfl,rfl,h1⟩,[],[],[.int .i64 x.a],[.int .i64 x.b],rfl,rfl,⟨rfl,rfl,h2⟩,⟨rfl,rfl,h3⟩⟩,rfl⟩
def zv5 {x:DRace} (h1:I64 x.g) (h2:I64 x.a) (h3:I64 x.b):Mine [] w (.agg #[.int .i64 x.g,.int .i64 x.a,.int .i64 x.b]) x:=
 ⟨⟨[.int .i64 x.g,.int .i64 x.a,.int .i64 x.b],⟨[],[],[.int .i64 x.g],[.int .i64 x.a,.int .i64 x.b],rfl,rfl,⟨rfl,rfl,h1⟩,[],[],[.int .i64 x.a],[.int .i64 x.b],rfl,rfl,⟨rfl,rfl,h2⟩,⟨rfl,rfl,h3⟩⟩,rfl⟩,qas,Wr.nil w⟩
end
end Go.Sh
namespace Go.Proofs.YtkgiigmcbgifdaaGreatDoor
open Go Go.Sh Go.Proofs
open Rep (rep)
variable {K:vL->Prop} {P:pG} {a:Int} {t:TypeId} {w:wD}
def zBS {x y:Operand} {a b:Bool} (ht:P.underlying t=some .bool) (k:K (.bool (decide (a≠b)))):RD P (bin .neq t x y (.bool a) (.bool b)) w K:=
 za9 (λw' _=>by
   have:=run_neq_bool (P:=P) w' t a b ht;cases a<;>cases b<;>simp_all [bin,eqGuard]) k
def sm {α:Type} (f:α->Nat) (l:List α):Nat:=(l.map f).sum
theorem zAV {α:Type} (f:α->Nat) {l:List α} {x:α} (h:x∈l):f x<=sm f l:=by
 unfold sm
 induction l with
 | nil=>cases h
 | cons y l ih=>
   rw [qbX,qcV];rcases qaa.1 h with rfl | h
   . omega
   have:=ih h;omega
def l01In_ok {b:Int} {c:Int}    :
   CALL tp 110 [.int .i64 a,.int .i64 b,.int .i64 c] w λr w'=>Ext w w'/\(r=.bool (decide (b<=a/\a<=c))):=by
 refine co (g:=kf [] [] []) Tryz.func110 ?_;refine zcH<|br (λc1=>?_) (λc1=>?_)
 . refine zdJ ?_;refine ⟨xrf w,?_⟩;simp [c1]
 refine ⟨xrf w,?_⟩;simp [c1]
end Go.Proofs.YtkgiigmcbgifdaaGreatDoor
namespace Go.Sh
open Rep (rep)
def zEI (P:pG) (t:TypeId) (α:Type) [Rep α] (n:Nat):Prop:=
 ∀ (H:Type) (enc:TypeId×vL->H) (w:wD) (spare:Nat->Bool) (held:Bool) (cs:List vL) (y:DataW H×List MemPlace),DataW.trod enc P w 0 spare held n t cs=some y->∃ F x,rep F w cs (x:α)
section
variable {P:pG} {t:TypeId}
def zv6 (ht:P.underlying t=some .string) (n:Nat):zEI P t ByteArray n:=by
 intro _ _ _ _ _ _ _ h;obtain ⟨s,rfl,_,hs⟩:=DataW.trod_string ht h;exact ⟨[],s,rfl,rfl,hs⟩
def zv7 {H:Type} {enc:TypeId×vL->H} {w W:wD} {r:Reach} {b0:Nat} {C:Nat->Bool} {held:Bool} {v:vL} {d:DataW H} {p:List MemPlace} (ht:P.underlying t=some .string) (hv:Value.okWide P W r b0 t v)
   (h:DataW.Trod enc P w 0 C held t v d p):∃ x:ByteArray,Is w v x:=by
 obtain ⟨_,rfl⟩:=WideShapes.okWide_string ht hv;obtain ⟨n,hn⟩:=h;obtain ⟨F,x,hx⟩:=zv6 ht n H enc w C held _ _ hn;exact ⟨x,F,_,hx,rfl⟩
end
end Go.Sh
namespace Go.Sh
open Rep (rep)
inductive DTerm where
 | mk (kind num:Int) (name:ByteArray) (kids:List DTerm)
namespace DTerm
def kind:DTerm->Int | .mk k _ _ _=>k
def num:DTerm->Int | .mk _ n _ _=>n
def name:DTerm->ByteArray | .mk _ _ s _=>s
def kids:DTerm->List DTerm | .mk _ _ _ l=>l
def tup (t:DTerm):Int×Int×ByteArray×List DTerm:=(t.kind,t.num,t.name,t.kids)
end DTerm
def DTerm.eta (t:DTerm):DTerm.mk t.kind t.num t.name t.kids=t:=by cases t;rfl
def DTerm.ext_iff {x y:DTerm}:x=y↔(x.kind=y.kind/\x.num=y.num/\x.name=y.name/\x.kids=y.kids):=by
 constructor
 . intro h;rw [h];exact ⟨rfl,rfl,rfl,rfl⟩
 rintro ⟨h1,h2,h3,h4⟩;rw [<-DTerm.eta x,<-DTerm.eta y,h1,h2,h3,h4]
theorem DTerm.kid_lt {t k:DTerm} (h:k∈t.kids):SizeOf.sizeOf k<SizeOf.sizeOf t:=by
 cases t with
 | mk a b c l=>
   have:k∈l:=h;have:=qcz this;simp only [DTerm.mk.sizeOf_spec];omega
theorem DTerm.ind {p:DTerm->Prop} (h:∀ t,(∀ k∈t.kids,p k)->p t) (t:DTerm):p t:=
  h t λk hk=>DTerm.ind h k
termination_by SizeOf.sizeOf t
decreasing_by exact DTerm.kid_lt hk
mutual
def DTerm.beq:DTerm->DTerm->Bool
  | .mk a b c l,.mk a' b' c' l'=>decide (a=a')&&decide (b=b')&&decide (c=c')&&DTerm.beqL l l'
def DTerm.beqL:List DTerm->List DTerm->Bool
  | [],[]=>true
  | x :: l,y :: m=>DTerm.beq x y&&DTerm.beqL l m
  | _,_=>false
end
mutual
theorem DTerm.beq_iff:∀ (x y:DTerm),DTerm.beq x y=true↔x=y
  | .mk a b c l,.mk a' b' c' l'=>by
    simp only [DTerm.beq,qap,qau,DTerm.mk.injEq,DTerm.beqL_iff l l',and_assoc]
theorem DTerm.beqL_iff:∀ (x y:List DTerm),DTerm.beqL x y=true↔x=y
  | [],[]=>by simp [DTerm.beqL]
  | [],y :: m=>by simp [DTerm.beqL]
  | x :: l,[]=>by simp [DTerm.beqL]
  | x :: l,y :: m=>by simp only [DTerm.beqL,qap,DTerm.beq_iff x y,DTerm.beqL_iff l m,qa8]
end
instance:DecidableEq DTerm:=λx y=>decidable_of_iff _ (DTerm.beq_iff x y)
mutual
def zrx:DTerm->List Nat->wD->List vL->Prop
  | .mk k n s ks,F,w,cs=>∃ a cap Fi xs,cs=[.int .i64 k,.int .i64 n,.string s,.slice a ks.length cap]/\I64 k/\I64 n/\s.size<=maxLen/\ks.length<=cap/\cap<=maxLen/\cellsT ks Fi w xs /\
    ((ks=[]/\F=[])\/∃ b o,a=some ⟨b,o,none⟩/\F=b :: Fi/\w.rangeAt b o xs/\b<w.heap.size)
def cellsT:List DTerm->List Nat->wD->List vL->Prop
  | [],F,_,xs=>F=[]/\xs=[]
  | y :: ys,F,w,xs=>∃ F1 F2 c1 c2,F=F1++F2/\xs=c1++c2/\zrx y F1 w c1/\cellsT ys F2 w c2
end
def zyS {t:DTerm} {F:List Nat} {w:wD} {cs:List vL} (h:zrx t F w cs):cs.length=4:=by
 cases t;rw [zrx] at h;obtain ⟨_,_,_,_,rfl,_⟩:=h;rfl
def zyT {t:DTerm} {F:List Nat} {w:wD} {cs:List vL} (h:zrx t F w cs):∀ v∈cs,v.oneCell'=true:=by
 cases t;rw [zrx] at h;obtain ⟨_,_,_,_,rfl,_⟩:=h;intro v hv;simp only [qaa,qag,qaz] at hv;rcases hv with rfl | rfl | rfl | rfl<;>rfl
mutual
theorem zpK:∀ (t:DTerm) {F:List Nat} {w w':wD} {cs:List vL},zrx t F w cs->(∀ b∈F,w'.heap[b]?=w.heap[b]?)->zrx t F w' cs
  | .mk k n s ks,F,w,w',cs,h,hk=>by
    rw [zrx] at h ⊢;obtain ⟨a,cap,Fi,xs,hcs,i1,i2,i3,h1,h2,hc,h4⟩:=h;rcases h4 with ⟨rfl,rfl⟩ | ⟨b,o,ha,hF,hr,hb⟩
    . exact ⟨a,cap,Fi,xs,hcs,i1,i2,i3,h1,h2,by rw [cellsT] at hc ⊢;exact hc,.inl ⟨rfl,rfl⟩⟩
    subst hF;have hbb:=hk b ss;refine ⟨a,cap,Fi,xs,hcs,i1,i2,i3,h1,h2,zll ks hc λc hc=>hk c (by simp [hc]),.inr ⟨b,o,ha,rfl,zbx hr hbb,?_⟩⟩;rcases qaw b (Array.size (World.heap w')) with h' | h'
    . exact h'
    rw [Array.getElem?_eq_none h'] at hbb;simp [Array.getElem?_eq_getElem hb] at hbb
theorem zll:∀ (l:List DTerm) {F:List Nat} {w w':wD} {cs:List vL},cellsT l F w cs->(∀ b∈F,w'.heap[b]?=w.heap[b]?)->cellsT l F w' cs
  | [],F,w,w',cs,h,_=>by rw [cellsT] at h ⊢;exact h
  | y :: ys,F,w,w',cs,h,hk=>by
    rw [cellsT] at h ⊢;obtain ⟨F1,F2,c1,c2,rfl,rfl,h1,h2⟩:=h;exact ⟨F1,F2,c1,c2,rfl,rfl,zpK y h1 λb hb=>hk b (by simp [hb]),zll ys h2 λb hb=>hk b (by simp [hb])⟩
end
mutual
theorem zv8:∀ (t:DTerm) {F:List Nat} {w:wD} {cs:List vL},zrx t F w cs->∀ b∈F,b<w.heap.size
  | .mk k n s ks,F,w,cs,h,c,hm=>by
    rw [zrx] at h;obtain ⟨a,cap,Fi,xs,hcs,i1,i2,i3,h1,h2,hc,h4⟩:=h;rcases h4 with ⟨rfl,rfl⟩ | ⟨b,o,ha,hF,hr,hb⟩
    . cases hm
    subst hF;rcases qaa.1 hm with rfl | hm
    . exact hb
    exact zpL ks hc c hm
theorem zpL:∀ (l:List DTerm) {F:List Nat} {w:wD} {cs:List vL},cellsT l F w cs->∀ b∈F,b<w.heap.size
  | [],F,w,cs,h,c,hm=>by rw [cellsT] at h;rw [h.1] at hm;cases hm
  | y :: ys,F,w,cs,h,c,hm=>by
    rw [cellsT] at h;obtain ⟨F1,F2,c1,c2,rfl,rfl,h1,h2⟩:=h;rcases qae.1 hm with hm | hm
    . exact zv8 y h1 c hm
    exact zpL ys h2 c hm
end
instance:Rep DTerm where
 size:=4
 agg:=true
 rep F w cs x:=zrx x F w cs
 pos:=by decide
 sz h:=by cases h
 len h:=zyS h
 one h:=zyT h
 keep h hk:=zpK _ h hk
 lt h:=zv8 _ h
theorem ziN {w:wD}:∀ {l:List DTerm} {F:List Nat} {xs:List vL},cellsT l F w xs↔Cells F w xs l
 | [],F,xs=>by rw [cellsT];exact Iff.rfl
 | y :: ys,F,xs=>by
   rw [cellsT];constructor
   . rintro ⟨F1,F2,c1,c2,h1,h2,h3,h4⟩;exact ⟨F1,F2,c1,c2,h1,h2,h3,ziN.1 h4⟩
   rintro ⟨F1,F2,c1,c2,h1,h2,h3,h4⟩;exact ⟨F1,F2,c1,c2,h1,h2,h3,ziN.2 h4⟩
def zig {w:wD} {F:List Nat} {cs:List vL} {t:DTerm}:rep F w cs t↔rep F w cs t.tup:=by
 obtain ⟨k,n,s,_⟩:=t;show zrx _ F w cs↔_;rw [zrx];constructor
 . rintro ⟨a,cap,Fi,xs,rfl,i1,i2,i3,h1,h2,hc,h4⟩;refine ⟨[],F,[.int .i64 k],_,rfl,rfl,⟨rfl,rfl,i1⟩,[],F,[.int .i64 n],_,rfl,rfl,⟨rfl,rfl,i2⟩,[],F,[.string s],_,rfl,rfl,⟨rfl,rfl,i3⟩,a,cap,Fi,xs,rfl,h1,h2,ziN.1 hc,h4⟩
 rintro ⟨_,_,_,_,rfl,rfl,⟨rfl,rfl,i1⟩,_,_,_,_,rfl,rfl,⟨rfl,rfl,i2⟩,_,_,_,_,rfl,rfl,⟨rfl,rfl,i3⟩,a,cap,Fi,xs,rfl,h1,h2,hc,h4⟩;exact ⟨a,cap,Fi,xs,rfl,i1,i2,i3,h1,h2,ziN.2 hc,h4⟩
def zsQ {w:wD} {b o:Nat} {t:DTerm}:At w b o t↔At w b o t.tup:=
 ⟨λ⟨F,cs,h,k⟩=>⟨F,cs,zig.1 h,k⟩,λ⟨F,cs,h,k⟩=>⟨F,cs,zig.2 h,k⟩⟩
def zv9 {w:wD} {G:List Nat} {b o:Nat} {t:DTerm}:OAt G w b o t↔OAt G w b o t.tup:=
 ⟨λ⟨cs,h,k⟩=>⟨cs,zig.1 h,k⟩,λ⟨cs,h,k⟩=>⟨cs,zig.2 h,k⟩⟩
section
variable {w:wD} {b o:Nat}
def zcI {x:DTerm} (h:At w b o x):At w b (o+0) x.kind:=zcB (α:=Int) (β:=Int×ByteArray×List DTerm) (p:=x.tup) (zsQ.1 h)
def zco {x:DTerm} (h:At w b o x):At w b (o+1) x.num:=zcB (α:=Int) (β:=ByteArray×List DTerm) (p:=(x.num,x.name,x.kids)) (zbi (α:=Int) (β:=Int×ByteArray×List DTerm) (p:=x.tup) (zsQ.1 h))
def zb1 {x:DTerm} (h:At w b o x):At w b (o+2) x.name:=zcB (α:=ByteArray) (β:=List DTerm) (p:=(x.name,x.kids)) (zbi (α:=Int) (β:=ByteArray×List DTerm) (p:=(x.num,x.name,x.kids)) (zbi (α:=Int) (β:=Int×ByteArray×List DTerm) (p:=x.tup) (zsQ.1 h)))
def za7 {x:DTerm} (h:At w b o x):At w b (o+3) x.kids:=zbi (α:=ByteArray) (β:=List DTerm) (p:=(x.name,x.kids)) (zbi (α:=Int) (β:=ByteArray×List DTerm) (p:=(x.num,x.name,x.kids)) (zbi (α:=Int) (β:=Int×ByteArray×List DTerm) (p:=x.tup) (zsQ.1 h)))
def zwa {x:DTerm} {F0:List Nat} {c0:List vL} (h0:rep F0 w c0 x.kind) {F1:List Nat} {c1:List vL} (h1:rep F1 w c1 x.num) {F2:List Nat} {c2:List vL} (h2:rep F2 w c2 x.name) {F3:List Nat} {c3:List vL} (h3:rep F3 w c3 x.kids) :
   rep (F0++(F1++(F2++F3))) w (c0++(c1++(c2++c3))) x:=zig.2 (zaQ h0 (zaQ h1 (zaQ h2 h3)))
end
def Lens.term {w:wD} {γ:Type} {H:List Nat->wD->γ->Prop} {F:List Nat} {b o:Nat} {G:List Nat} {t:DTerm} {upd:DTerm->γ} (h:Lens H F w b o G t upd) :
   Lens H F w b o G t.tup (λp=>upd (.mk p.1 p.2.1 p.2.2.1 p.2.2.2)):=
 ⟨zv9.1 h.here,h.sub,λw' G' y' hc hO hs=>h.back w' G' _ hc (zv9.2 hO) hs⟩
instance:RepZ DTerm:=⟨.mk 0 0 ByteArray.empty [],RepZ.zc (Int×Int×ByteArray×List DTerm),λw=>zig.2 (RepZ.zr (α:=Int×Int×ByteArray×List DTerm) w)⟩
section
variable {γ:Type} {H:List Nat->wD->γ->Prop} {F:List Nat} {w:wD} {b o:Nat} {G:List Nat} {x:DTerm} {upd:DTerm->γ}
end
structure DIns where
 op:Int
 arg:Int
 term:DTerm
 to:Int
def DIns.ext_iff {x y:DIns}:x=y↔(x.op=y.op/\x.arg=y.arg/\x.term=y.term/\x.to=y.to):=⟨λh=>by rw [h];exact ⟨rfl,rfl,rfl,rfl⟩,λh=>by obtain ⟨h0,h1,h2,h3⟩:=h;cases x;cases y;simp only at h0 h1 h2 h3;simp only [h0,h1,h2,h3]⟩
instance:DecidableEq DIns:=λx y=>decidable_of_iff (x.op=y.op/\x.arg=y.arg/\x.term=y.term/\x.to=y.to) DIns.ext_iff.symm
instance:Rep DIns:=Rep.via λx=>(x.op,x.arg,x.term,x.to)
def zaD {w:wD} {b o:Nat} {x:DIns} (h:At w b o x):At w b (o+0) x.op:=zcB (α:=Int) (β:=Int×DTerm×Int) (p:=(x.op,x.arg,x.term,x.to)) h
def zaF {w:wD} {b o:Nat} {x:DIns} (h:At w b o x):At w b (o+1) x.arg:=zcB (α:=Int) (β:=DTerm×Int) (p:=(x.arg,x.term,x.to)) (zbi (α:=Int) (β:=Int×DTerm×Int) (p:=(x.op,x.arg,x.term,x.to)) h)
def zcZ {w:wD} {b o:Nat} {x:DIns} (h:At w b o x):At w b (o+2) x.term:=zcB (α:=DTerm) (β:=Int) (p:=(x.term,x.to)) (zbi (α:=Int) (β:=DTerm×Int) (p:=(x.arg,x.term,x.to)) (zbi (α:=Int) (β:=Int×DTerm×Int) (p:=(x.op,x.arg,x.term,x.to)) h))
def zcJ {w:wD} {b o:Nat} {x:DIns} (h:At w b o x):At w b (o+6) x.to:=zbi (α:=DTerm) (β:=Int) (p:=(x.term,x.to)) (zbi (α:=Int) (β:=DTerm×Int) (p:=(x.arg,x.term,x.to)) (zbi (α:=Int) (β:=Int×DTerm×Int) (p:=(x.op,x.arg,x.term,x.to)) h))
instance:RepZ DIns:=⟨⟨(RepZ.zv:Int),(RepZ.zv:Int),(RepZ.zv:DTerm),(RepZ.zv:Int)⟩,RepZ.zc (Int×Int×DTerm×Int),λw=>RepZ.zr (α:=Int×Int×DTerm×Int) w⟩
def zlm {γ:Type} {H:List Nat->wD->γ->Prop} {F:List Nat} {w:wD} {b o:Nat} {G:List Nat} {x:DIns} {upd:DIns->γ} (h:Lens H F w b o G x upd) :
   ∃ G1,Lens H F w b (o+6) G1 x.to (λy=>upd ⟨x.op,x.arg,x.term,y⟩):=by
 have h':Lens H F w b o G (x.op,x.arg,x.term,x.to) (λp:Int×Int×DTerm×Int=>upd ⟨p.1,p.2.1,p.2.2.1,p.2.2.2⟩):=⟨h.here,h.sub,λw' G' _ hc hO hs=>h.back w' G' _ hc hO hs⟩;obtain ⟨_,h'⟩:=h'.snd;obtain ⟨G1,h'⟩:=h'.snd;obtain ⟨_,h'⟩:=h'.snd;exact ⟨_,h'⟩
structure DCode where
 globals:List ByteArray
 locks:List ByteArray
 procs:List ByteArray
 entry:List Int
 ins:List DIns
def DCode.ext_iff {x y:DCode}:x=y↔(x.globals=y.globals/\x.locks=y.locks/\x.procs=y.procs/\x.entry=y.entry/\x.ins=y.ins):=⟨λh=>by rw [h];exact ⟨rfl,rfl,rfl,rfl,rfl⟩,λh=>by obtain ⟨h0,h1,h2,h3,h4⟩:=h;cases x;cases y;simp only at h0 h1 h2 h3 h4;simp only [h0,h1,h2,h3,h4]⟩
instance:DecidableEq DCode:=λx y=>decidable_of_iff (x.globals=y.globals/\x.locks=y.locks/\x.procs=y.procs/\x.entry=y.entry/\x.ins=y.ins) DCode.ext_iff.symm
instance:Rep DCode:=Rep.via λx=>(x.globals,x.locks,x.procs,x.entry,x.ins)
def zbH {w:wD} {b o:Nat} {x:DCode} (h:At w b o x):At w b (o+0) x.globals:=zcB (α:=List ByteArray) (β:=(List ByteArray)×(List ByteArray)×(List Int)×(List DIns)) (p:=(x.globals,x.locks,x.procs,x.entry,x.ins)) h
def zbq {w:wD} {b o:Nat} {x:DCode} (h:At w b o x):At w b (o+1) x.locks:=zcB (α:=List ByteArray) (β:=(List ByteArray)×(List Int)×(List DIns)) (p:=(x.locks,x.procs,x.entry,x.ins)) (zbi (α:=List ByteArray) (β:=(List ByteArray)×(List ByteArray)×(List Int)×(List DIns)) (p:=(x.globals,x.locks,x.procs,x.entry,x.ins)) h)
def zay {w:wD} {b o:Nat} {x:DCode} (h:At w b o x):At w b (o+2) x.procs:=zcB (α:=List ByteArray) (β:=(List Int)×(List DIns)) (p:=(x.procs,x.entry,x.ins)) (zbi (α:=List ByteArray) (β:=(List ByteArray)×(List Int)×(List DIns)) (p:=(x.locks,x.procs,x.entry,x.ins)) (zbi (α:=List ByteArray) (β:=(List ByteArray)×(List ByteArray)×(List Int)×(List DIns)) (p:=(x.globals,x.locks,x.procs,x.entry,x.ins)) h))
def zav {w:wD} {b o:Nat} {x:DCode} (h:At w b o x):At w b (o+3) x.entry:=zcB (α:=List Int) (β:=(List DIns)) (p:=(x.entry,x.ins)) (zbi (α:=List ByteArray) (β:=(List Int)×(List DIns)) (p:=(x.procs,x.entry,x.ins)) (zbi (α:=List ByteArray) (β:=(List ByteArray)×(List Int)×(List DIns)) (p:=(x.locks,x.procs,x.entry,x.ins)) (zbi (α:=List ByteArray) (β:=(List ByteArray)×(List ByteArray)×(List Int)×(List DIns)) (p:=(x.globals,x.locks,x.procs,x.entry,x.ins)) h)))
def zao {w:wD} {b o:Nat} {x:DCode} (h:At w b o x):At w b (o+4) x.ins:=zbi (α:=List Int) (β:=(List DIns)) (p:=(x.entry,x.ins)) (zbi (α:=List ByteArray) (β:=(List Int)×(List DIns)) (p:=(x.procs,x.entry,x.ins)) (zbi (α:=List ByteArray) (β:=(List ByteArray)×(List Int)×(List DIns)) (p:=(x.locks,x.procs,x.entry,x.ins)) (zbi (α:=List ByteArray) (β:=(List ByteArray)×(List ByteArray)×(List Int)×(List DIns)) (p:=(x.globals,x.locks,x.procs,x.entry,x.ins)) h)))
instance:RepZ DCode:=⟨⟨(RepZ.zv:List ByteArray),(RepZ.zv:List ByteArray),(RepZ.zv:List ByteArray),(RepZ.zv:List Int),(RepZ.zv:List DIns)⟩,RepZ.zc ((List ByteArray)×(List ByteArray)×(List ByteArray)×(List Int)×(List DIns)),λw=>RepZ.zr (α:=(List ByteArray)×(List ByteArray)×(List ByteArray)×(List Int)×(List DIns)) w⟩
def zpM {w:wD} {F:List Nat} {cs:List vL} {x:DCode} (h:rep F w cs x):∃ F0 c0 F1 c1 F2 c2 F3 c3 F4 c4,F=(F0++(F1++(F2++(F3++F4))))/\cs=(c0++(c1++(c2++(c3++c4))))/\rep F0 w c0 x.globals/\rep F1 w c1 x.locks/\rep F2 w c2 x.procs/\rep F3 w c3 x.entry/\rep F4 w c4 x.ins:=by
 obtain ⟨F0,_,c0,_,rfl,rfl,h0,h⟩:=h;obtain ⟨F1,_,c1,_,rfl,rfl,h1,h⟩:=h;obtain ⟨F2,_,c2,_,rfl,rfl,h2,h⟩:=h;obtain ⟨F3,_,c3,_,rfl,rfl,h3,h⟩:=h;exact ⟨_,_,_,_,_,_,_,_,_,_,rfl,rfl,h0,h1,h2,h3,h⟩
structure DTouch where
 at_:Int
 global:Int
 write:Bool
 held:Int
def DTouch.ext_iff {x y:DTouch}:x=y↔(x.at_=y.at_/\x.global=y.global/\x.write=y.write/\x.held=y.held):=⟨λh=>by rw [h];exact ⟨rfl,rfl,rfl,rfl⟩,λh=>by obtain ⟨h0,h1,h2,h3⟩:=h;cases x;cases y;simp only at h0 h1 h2 h3;simp only [h0,h1,h2,h3]⟩
instance:DecidableEq DTouch:=λx y=>decidable_of_iff (x.at_=y.at_/\x.global=y.global/\x.write=y.write/\x.held=y.held) DTouch.ext_iff.symm
instance:Rep DTouch:=Rep.via λx=>(x.at_,x.global,x.write,x.held)
def zcw {w:wD} {b o:Nat} {x:DTouch} (h:At w b o x):At w b (o+0) x.at_:=zcB (α:=Int) (β:=Int×Bool×Int) (p:=(x.at_,x.global,x.write,x.held)) h
def zeh {w:wD} {b o:Nat} {x:DTouch} (h:At w b o x):At w b (o+1) x.global:=zcB (α:=Int) (β:=Bool×Int) (p:=(x.global,x.write,x.held)) (zbi (α:=Int) (β:=Int×Bool×Int) (p:=(x.at_,x.global,x.write,x.held)) h)
def zgD {w:wD} {b o:Nat} {x:DTouch} (h:At w b o x):At w b (o+2) x.write:=zcB (α:=Bool) (β:=Int) (p:=(x.write,x.held)) (zbi (α:=Int) (β:=Bool×Int) (p:=(x.global,x.write,x.held)) (zbi (α:=Int) (β:=Int×Bool×Int) (p:=(x.at_,x.global,x.write,x.held)) h))
def zei {w:wD} {b o:Nat} {x:DTouch} (h:At w b o x):At w b (o+3) x.held:=zbi (α:=Bool) (β:=Int) (p:=(x.write,x.held)) (zbi (α:=Int) (β:=Bool×Int) (p:=(x.global,x.write,x.held)) (zbi (α:=Int) (β:=Int×Bool×Int) (p:=(x.at_,x.global,x.write,x.held)) h))
instance:RepZ DTouch:=⟨⟨(RepZ.zv:Int),(RepZ.zv:Int),(RepZ.zv:Bool),(RepZ.zv:Int)⟩,RepZ.zc (Int×Int×Bool×Int),λw=>RepZ.zr (α:=Int×Int×Bool×Int) w⟩
def zwb {w:wD} {x:DTouch} (h_at_:I64 x.at_) (h_global:I64 x.global)  (h_held:I64 x.held):Mine [] w (.agg #[.int .i64 x.at_,.int .i64 x.global,.bool x.write,.int .i64 x.held]) x:=⟨⟨[.int .i64 x.at_,.int .i64 x.global,.bool x.write,.int .i64 x.held],⟨[],[],[.int .i64 x.at_],[.int .i64 x.global,.bool x.write,.int .i64 x.held],rfl,rfl,⟨rfl,rfl,h_at_⟩,⟨[],[],[.int .i64 x.global],[.bool x.write,.int .i64 x.held],rfl,rfl,⟨rfl,rfl,h_global⟩,⟨[],[],[.bool x.write],[.int .i64 x.held],rfl,rfl,⟨rfl,rfl⟩,⟨rfl,rfl,h_held⟩⟩⟩⟩,rfl⟩,qas,Wr.nil w⟩
instance:Flat DTouch:=⟨λh=>Flat.flat (α:=Int×Int×Bool×Int) h⟩
end Go.Sh
namespace Go.Proofs.YtkgiigmcbgifdaaGreatDoor
open Go Go.Sh Go.Proofs
open Rep (rep)
variable {k n:Nat} {s:ByteArray} {w:wD}
def zmS (b:UInt8):Bool:=decide ((97:Int)<=(b.toNat:Int)/\(b.toNat:Int)<=122)
def zju (b:UInt8):Bool:=decide ((48:Int)<=(b.toNat:Int)/\(b.toNat:Int)<=57)
def zh0 (s:ByteArray):Bool:=decide (s.size<=12)&&(bts s).head?.any zmS&&(bts s).all (λb=>zmS b || zju b)
def kw:List ByteArray:=[.mk #[97,110,100],.mk #[99,97,108,108],.mk #[101,108,115,101],.mk #[103,108,111,98,97,108,115],.mk #[105,102],.mk #[108,111,99,107],.mk #[108,111,99,107,115],
 .mk #[110,111,116],.mk #[112,114,111,99],.mk #[115,107,105,112],.mk #[115,112,97,119,110],.mk #[117,110,108,111,99,107],.mk #[119,104,105,108,101]]
def zaz (s:ByteArray):Bool:=zh0 s&&!decide (s∈kw)
def isSmall_ok    :
   CALL tp 202 [.int .u8 (n:Int)] w λr w'=>Ext w w'/\(r=.bool (decide ((97:Int)<=(n:Int)/\(n:Int)<=122))):=by
 refine co (g:=kf [] [] []) Tryz.func202 ?_;refine zcH<|br (λc1=>?_) (λc1=>?_)
 . refine zdJ ?_;refine ⟨xrf w,?_⟩;simp [c1]
 refine ⟨xrf w,?_⟩;simp [c1]
def isFigure_ok    :
   CALL tp 203 [.int .u8 (n:Int)] w λr w'=>Ext w w'/\(r=.bool (decide ((48:Int)<=(n:Int)/\(n:Int)<=57))):=by
 refine co (g:=kf [] [] []) Tryz.func203 ?_;refine zcH<|br (λc1=>?_) (λc1=>?_)
 . refine zdJ ?_;refine ⟨xrf w,?_⟩;simp [c1]
 refine ⟨xrf w,?_⟩;simp [c1]
def l02Letter_ok    :
   CALL tp 190 [.int .u8 (n:Int)] w λr w'=>Ext w w'/\(r=.bool (decide ((97:Int)<=(n:Int)/\(n:Int)<=122))):=by
 refine co (g:=kf [] [] []) Tryz.func190 ?_;refine zcH<|br (λc1=>?_) (λc1=>?_)
 . refine zdJ ?_;refine ⟨xrf w,?_⟩;simp [c1]
 refine ⟨xrf w,?_⟩;simp [c1]
def l02Figure_ok    :
   CALL tp 192 [.int .u8 (n:Int)] w λr w'=>Ext w w'/\(r=.bool (decide ((48:Int)<=(n:Int)/\(n:Int)<=57))):=by
 refine co (g:=kf [] [] []) Tryz.func192 ?_;refine zcH<|br (λc1=>?_) (λc1=>?_)
 . refine zdJ ?_;refine ⟨xrf w,?_⟩;simp [c1]
 refine ⟨xrf w,?_⟩;simp [c1]
def zsR (h:0<s.size):(bts s).head?=some ((bts s)[0]'(by rw [zaB];exact h)):=by
 rw [List.head?_eq_getElem?,List.getElem?_eq_getElem (by rw [zaB];exact h)]
def zne (h:s.size=0):zh0 s=false:=by
 have:bts s=[]:=qaj (by rw [zaB];exact h);simp [zh0,this]
def zln (h:12<s.size):zh0 s=false:=by
 simp [zh0,Nat.not_le.2 h]
def zpN (h:0<s.size) (c:¬((97:Int)<=(((bts s)[0]'(by rw [zaB];exact h)).toNat:Int)/\(((bts s)[0]'(by rw [zaB];exact h)).toNat:Int)<=122)):zh0 s=false:=by
 have:zmS ((bts s)[0]'(by rw [zaB];exact h))=false:=by simp only [zmS,c,qak]
 simp [zh0,zsR h,this]
def zwc (h:k<s.size) (c1:¬((97:Int)<=(((bts s)[k]'(by rw [zaB];exact h)).toNat:Int)/\(((bts s)[k]'(by rw [zaB];exact h)).toNat:Int)<=122))
   (c2:¬((48:Int)<=(((bts s)[k]'(by rw [zaB];exact h)).toNat:Int)/\(((bts s)[k]'(by rw [zaB];exact h)).toNat:Int)<=57)):zh0 s=false:=by
 have h1:zmS ((bts s)[k]'(by rw [zaB];exact h))=false:=by simp only [zmS,c1,qak]
 have h2:zju ((bts s)[k]'(by rw [zaB];exact h))=false:=by simp only [zju,c2,qak]
 have:(bts s).all (λb=>zmS b || zju b)=false:=by
   rw [qcR];exact ⟨_,qac (by rw [zaB];exact h),by simp [h1,h2]⟩
 simp [zh0,this]
def ziO (h:k<s.size) (hi:∀ b∈(bts s).take k,(zmS b || zju b)=true) (c:zmS ((bts s)[k]'(by rw [zaB];exact h))=true\/zju ((bts s)[k]'(by rw [zaB];exact h))=true) :
   ∀ b∈(bts s).take (k+1),(zmS b || zju b)=true:=by
 rw [tk (by rw [zaB];exact h)];intro b hb;rcases qae.1 hb with hb | hb
 . exact hi b hb
 simp only [qaa,qag,qaz] at hb;subst hb;simpa using c
def zsS (h0:0<s.size) (h1:s.size<=12) (c:(97:Int)<=(((bts s)[0]'(by rw [zaB];exact h0)).toNat:Int)/\(((bts s)[0]'(by rw [zaB];exact h0)).toNat:Int)<=122) (hk:s.size<=k)
   (hi:∀ b∈(bts s).take k,(zmS b || zju b)=true):zh0 s=true:=by
 rw [qai (by rw [zaB];exact hk)] at hi;have e1:zmS ((bts s)[0]'(by rw [zaB];exact h0))=true:=by simp only [zmS,c,and_self,qbb]
 have e2:(bts s).all (λb=>zmS b || zju b)=true:=qaH.2 hi;simp [zh0,zsR h0,e1,e2,h1]
def l02Word_ok    :
   CALL tp 183 [.string s] w λr w'=>Ext w w'/\(r=.bool (zh0 s)):=by
 refine co (g:=kf [] [(4,68719214604,[3])] []) Tryz.func183 ?_;refine zb8 u9<|zag<|br (λc1=>?_) (λc1=>?_)
 . refine ⟨xrf w,?_⟩;rw [zne oo]
 refine zb8 u9<|zbZ<|br (λc2=>?_) (λc2=>?_)
 . refine ⟨xrf w,?_⟩;rw [zln oo]
 refine zba (i:=0) u9 oo ?_;refine (l02Letter_ok ).mono ?_;rintro _ g0 ⟨y1,rfl⟩;refine za0<|br (λc3=>?_) (λc3=>?_)
 . refine ⟨y1,?_⟩;rw [zpN oo c3]
 refine zar (s.size) (λk us w'=>us=[.int .i64 (k:Int)]/\Ext g0 w'/\(∀ b∈(bts s).take k,(zmS b || zju b)=true)) (0) oo ⟨ss,xrf g0,ss⟩ ?_;rintro k m4 _ _ _ ⟨hu,y2,C⟩;try replace hu:=zbv hu
 try rw [hu]
 try clear hu
 refine zb8 u9<|zah<|br (λc4=>?_) (λc4=>?_)
 . refine zba u9 oo ?_;refine (l02Letter_ok ).mono ?_;rintro _ _ ⟨y3,rfl⟩;refine za0<|br (λc5=>?_) (λc5=>?_)
   . refine zba u9 oo ?_;refine (l02Figure_ok ).mono ?_;rintro _ _ ⟨y4,rfl⟩;refine za0<|br (λc6=>?_) (λc6=>?_)
     . refine ⟨(y1.t (y2.t (y3.t y4))),?_⟩;rw [zwc oo c5 c6]
     refine zaw<|⟨m4-1,oo,k+1,oo,ss,(y2.t (y3.t y4)),?_⟩;exact ziO oo C (.inr (by simp only [zju,qaf.1 c6,and_self,qbb]))
   refine zaw<|⟨m4-1,oo,k+1,oo,ss,(y2.t y3),?_⟩;exact ziO oo C (.inl (by simp only [zmS,qaf.1 c5,and_self,qbb]))
 refine ⟨(y1.t y2),?_⟩;rw [zsS oo oo (qaf.1 c3) oo C]
def specIsName_ok    :
   CALL tp 101 [.string s] w λr w'=>Ext w w'/\(r=.bool (zaz s)):=by
 refine co (g:=kf [] [] []) Tryz.func101 ?_;refine zat<|br (λc1=>?_) (λc1=>?_)
 . refine ⟨xrf w,?_⟩;have hm:s∈kw:=by simp [kw, *]
   simp [zaz,hm]
 refine zat<|br (λc2=>?_) (λc2=>?_)
 . refine ⟨xrf w,?_⟩;have hm:s∈kw:=by simp [kw, *]
   simp [zaz,hm]
 refine zat<|br (λc3=>?_) (λc3=>?_)
 . refine ⟨xrf w,?_⟩;have hm:s∈kw:=by simp [kw, *]
   simp [zaz,hm]
 refine zat<|br (λc4=>?_) (λc4=>?_)
 . refine ⟨xrf w,?_⟩;have hm:s∈kw:=by simp [kw, *]
   simp [zaz,hm]
 refine zat<|br (λc5=>?_) (λc5=>?_)
 . refine ⟨xrf w,?_⟩;have hm:s∈kw:=by simp [kw, *]
   simp [zaz,hm]
 refine zat<|br (λc6=>?_) (λc6=>?_)
 . refine ⟨xrf w,?_⟩;have hm:s∈kw:=by simp [kw, *]
   simp [zaz,hm]
 refine zat<|br (λc7=>?_) (λc7=>?_)
 . refine ⟨xrf w,?_⟩;have hm:s∈kw:=by simp [kw, *]
   simp [zaz,hm]
 refine zat<|br (λc8=>?_) (λc8=>?_)
 . refine ⟨xrf w,?_⟩;have hm:s∈kw:=by simp [kw, *]
   simp [zaz,hm]
 refine zat<|br (λc9=>?_) (λc9=>?_)
 . refine ⟨xrf w,?_⟩;have hm:s∈kw:=by simp [kw, *]
   simp [zaz,hm]
 refine zat<|br (λg0=>?_) (λg0=>?_)
 . refine ⟨xrf w,?_⟩;have hm:s∈kw:=by simp [kw, *]
   simp [zaz,hm]
 refine zat<|br (λg1=>?_) (λg1=>?_)
 . refine ⟨xrf w,?_⟩;have hm:s∈kw:=by simp [kw, *]
   simp [zaz,hm]
 refine zat<|br (λg2=>?_) (λg2=>?_)
 . refine ⟨xrf w,?_⟩;have hm:s∈kw:=by simp [kw, *]
   simp [zaz,hm]
 refine zat<|br (λg3=>?_) (λg3=>?_)
 . refine ⟨xrf w,?_⟩;have hm:s∈kw:=by simp [kw, *]
   simp [zaz,hm]
 refine (l02Word_ok ).mono ?_;rintro _ _ ⟨y1,rfl⟩;refine ⟨y1,?_⟩;have hm:s∉kw:=by simp [kw, *]
 simp [zaz,hm]
def implIsName_ok    :
   CALL tp 131 [.string s] w λr w'=>Ext w w'/\(r=.bool (zaz s)):=by
 refine co (g:=kf [] [(4,68719214604,[3])] []) Tryz.func131 ?_;refine zb8 u9<|zah<|br (λc1=>?_) (λc1=>?_)
 . refine ⟨xrf w,?_⟩;simp [zaz,zne (s:=s) oo]
 refine zb8 u9<|zbZ<|br (λc2=>?_) (λc2=>?_)
 . refine ⟨xrf w,?_⟩;simp [zaz,zln (s:=s) oo]
 refine zba (i:=0) u9 oo ?_;refine (isSmall_ok ).mono ?_;rintro _ g0 ⟨y1,rfl⟩;refine za0<|br (λc3=>?_) (λc3=>?_)
 . refine ⟨y1,?_⟩;simp [zaz,zpN (s:=s) oo c3]
 refine zar (s.size) (λk us w'=>us=[.int .i64 (k:Int)]/\Ext g0 w'/\(∀ b∈(bts s).take k,(zmS b || zju b)=true)) (0) oo ⟨ss,xrf g0,ss⟩ ?_;rintro k m4 _ _ _ ⟨hu,y2,C⟩;try replace hu:=zbv hu
 try rw [hu]
 try clear hu
 refine zb8 u9<|zah<|br (λc4=>?_) (λc4=>?_)
 . refine zba u9 oo ?_;refine (isSmall_ok ).mono ?_;rintro _ _ ⟨y3,rfl⟩;refine za0<|br (λc5=>?_) (λc5=>?_)
   . refine zba u9 oo ?_;refine (isFigure_ok ).mono ?_;rintro _ _ ⟨y4,rfl⟩;refine za0<|br (λc6=>?_) (λc6=>?_)
     . refine ⟨(y1.t (y2.t (y3.t y4))),?_⟩;simp [zaz,zwc (s:=s) oo c5 c6]
     refine zaw<|⟨m4-1,oo,k+1,oo,ss,(y2.t (y3.t y4)),?_⟩;exact ziO oo C (.inr (by simp only [zju,qaf.1 c6,and_self,qbb]))
   refine zaw<|⟨m4-1,oo,k+1,oo,ss,(y2.t y3),?_⟩;exact ziO oo C (.inl (by simp only [zmS,qaf.1 c5,and_self,qbb]))
 refine zat<|br (λc7=>?_) (λc7=>?_)
 . refine ⟨(y1.t y2),?_⟩;have hm:s∈kw:=by simp only [kw,qaa, *,true_or,or_true]
   simp [zaz,hm]
 refine zat<|br (λc8=>?_) (λc8=>?_)
 . refine ⟨(y1.t y2),?_⟩;have hm:s∈kw:=by simp only [kw,qaa, *,true_or,or_true]
   simp [zaz,hm]
 refine zat<|br (λc9=>?_) (λc9=>?_)
 . refine ⟨(y1.t y2),?_⟩;have hm:s∈kw:=by simp only [kw,qaa, *,true_or,or_true]
   simp [zaz,hm]
 refine zat<|br (λg1=>?_) (λg1=>?_)
 . refine ⟨(y1.t y2),?_⟩;have hm:s∈kw:=by simp only [kw,qaa, *,true_or,or_true]
   simp [zaz,hm]
 refine zat<|br (λg2=>?_) (λg2=>?_)
 . refine ⟨(y1.t y2),?_⟩;have hm:s∈kw:=by simp only [kw,qaa, *,true_or,or_true]
   simp [zaz,hm]
 refine zat<|br (λg3=>?_) (λg3=>?_)
 . refine ⟨(y1.t y2),?_⟩;have hm:s∈kw:=by simp only [kw,qaa, *,true_or,or_true]
   simp [zaz,hm]
 refine zat<|br (λg4=>?_) (λg4=>?_)
 . refine ⟨(y1.t y2),?_⟩;have hm:s∈kw:=by simp only [kw,qaa, *,true_or,or_true]
   simp [zaz,hm]
 refine zat<|br (λg5=>?_) (λg5=>?_)
 . refine ⟨(y1.t y2),?_⟩;have hm:s∈kw:=by simp only [kw,qaa, *,true_or,or_true]
   simp [zaz,hm]
 refine zat<|br (λg9=>?_) (λg9=>?_)
 . refine ⟨(y1.t y2),?_⟩;have hm:s∈kw:=by simp only [kw,qaa, *,true_or,or_true]
   simp [zaz,hm]
 refine zat<|br (λgb=>?_) (λgb=>?_)
 . refine ⟨(y1.t y2),?_⟩;have hm:s∈kw:=by simp only [kw,qaa, *,true_or,or_true]
   simp [zaz,hm]
 refine zat<|br (λgc=>?_) (λgc=>?_)
 . refine ⟨(y1.t y2),?_⟩;have hm:s∈kw:=by simp only [kw,qaa, *,true_or,or_true]
   simp [zaz,hm]
 refine zat<|br (λgd=>?_) (λgd=>?_)
 . refine ⟨(y1.t y2),?_⟩;have hm:s∈kw:=by simp only [kw,qaa, *,true_or,or_true]
   simp [zaz,hm]
 refine zat<|br (λgf=>?_) (λgf=>?_)
 . refine ⟨(y1.t y2),?_⟩;have hm:s∈kw:=by simp only [kw,qaa, *,true_or,or_true]
   simp [zaz,hm]
 refine ⟨(y1.t y2),?_⟩;have hm:s∉kw:=by simp only [kw,qaa,qag,qaz, *,not_false_eq_true]
 simp [zaz,hm,zsS oo oo (qaf.1 c3) oo C]
end Go.Proofs.YtkgiigmcbgifdaaGreatDoor
namespace Go.Sh
open Rep (rep)
inductive DStmt where
 | mk (kind:Int) (name:ByteArray) (term:DTerm) (body els:List DStmt)
namespace DStmt
def kind:DStmt->Int | .mk k _ _ _ _=>k
def name:DStmt->ByteArray | .mk _ s _ _ _=>s
def term:DStmt->DTerm | .mk _ _ t _ _=>t
def body:DStmt->List DStmt | .mk _ _ _ b _=>b
def els:DStmt->List DStmt | .mk _ _ _ _ e=>e
def tup (t:DStmt):Int×ByteArray×DTerm×List DStmt×List DStmt:=(t.kind,t.name,t.term,t.body,t.els)
end DStmt
def DStmt.eta (t:DStmt):DStmt.mk t.kind t.name t.term t.body t.els=t:=by cases t;rfl
theorem DStmt.body_lt {t k:DStmt} (h:k∈t.body):SizeOf.sizeOf k<SizeOf.sizeOf t:=by
 cases t with
 | mk a b c l m=>
   have:k∈l:=h;have:=qcz this;simp only [DStmt.mk.sizeOf_spec];omega
theorem DStmt.els_lt {t k:DStmt} (h:k∈t.els):SizeOf.sizeOf k<SizeOf.sizeOf t:=by
 cases t with
 | mk a b c l m=>
   have:k∈m:=h;have:=qcz this;simp only [DStmt.mk.sizeOf_spec];omega
theorem DStmt.ind {p:DStmt->Prop} (h:∀ t,(∀ k∈t.body,p k)->(∀ k∈t.els,p k)->p t) (t:DStmt):p t:=
  h t (λk hk=>DStmt.ind h k) (λk hk=>DStmt.ind h k)
termination_by SizeOf.sizeOf t
decreasing_by
  . exact DStmt.body_lt hk
  exact DStmt.els_lt hk
def slc (n:Nat) (nl:Prop) (w:wD) (F:List Nat) (c:vL) (C:List Nat->List vL->Prop):Prop:=
 ∃ a cap Fi xs,c=.slice a n cap/\n<=cap/\cap<=maxLen/\C Fi xs/\((nl/\F=[])\/∃ b o,a=some ⟨b,o,none⟩/\F=b :: Fi/\w.rangeAt b o xs/\b<w.heap.size)
def zwd {n:Nat} {nl:Prop} {w:wD} {F:List Nat} {c:vL} {C:List Nat->List vL->Prop} (h:slc n nl w F c C):c.oneCell'=true:=by
 obtain ⟨_,_,_,_,rfl,_⟩:=h;rfl
def zue {w w':wD} {b:Nat} (hb:b<w.heap.size) (h:w'.heap[b]?=w.heap[b]?):b<w'.heap.size:=by
 rcases qaw b (Array.size (World.heap w')) with h' | h'
 . exact h'
 rw [Array.getElem?_eq_none h'] at h;simp [Array.getElem?_eq_getElem hb] at h
def zsT {n:Nat} {nl:Prop} {w w':wD} {F:List Nat} {c:vL} {C C':List Nat->List vL->Prop} (h:slc n nl w F c C) (hk:∀ b∈F,w'.heap[b]?=w.heap[b]?)
   (hC:∀ Fi xs,C Fi xs->(∀ b∈Fi,w'.heap[b]?=w.heap[b]?)->C' Fi xs) (hN:nl->∀ Fi xs,C Fi xs->Fi=[]):slc n nl w' F c C':=by
 obtain ⟨a,cap,Fi,xs,hc,h1,h2,h3,h4⟩:=h;rcases h4 with ⟨hn,rfl⟩ | ⟨b,o,ha,hF,hr,hb⟩
 . exact ⟨a,cap,Fi,xs,hc,h1,h2,hC _ _ h3 (λb hb=>by rw [hN hn _ _ h3] at hb;cases hb),.inl ⟨hn,rfl⟩⟩
 subst hF;have g0:=hk b ss;exact ⟨a,cap,Fi,xs,hc,h1,h2,hC _ _ h3 λc hc=>hk c (by simp [hc]),.inr ⟨b,o,ha,rfl,zbx hr g0,zue hb g0⟩⟩
def zAW {n:Nat} {nl:Prop} {w:wD} {F:List Nat} {c:vL} {C:List Nat->List vL->Prop} (h:slc n nl w F c C) (hC:∀ Fi xs,C Fi xs->∀ b∈Fi,b<w.heap.size):∀ b∈F,b<w.heap.size:=by
 obtain ⟨_,_,Fi,xs,_,_,_,h3,h4⟩:=h;intro c hm;rcases h4 with ⟨_,rfl⟩ | ⟨b,_,_,hF,_,hb⟩
 . cases hm
 subst hF;rcases qaa.1 hm with rfl | hm
 . exact hb
 exact hC _ _ h3 c hm
mutual
def zuf:DStmt->List Nat->wD->List vL->Prop
  | .mk k s t bs es,F,w,cs=>∃ Ft ct Fb cb Fe ce,F=Ft++(Fb++Fe)/\cs=.int .i64 k :: .string s :: (ct++[cb,ce])/\I64 k/\s.size<=maxLen/\rep Ft w ct t /\
    slc bs.length (bs=[]) w Fb cb (λFi xs=>zeQ bs Fi w xs)/\slc es.length (es=[]) w Fe ce (λFi xs=>zeQ es Fi w xs)
def zeQ:List DStmt->List Nat->wD->List vL->Prop
  | [],F,_,xs=>F=[]/\xs=[]
  | y :: ys,F,w,xs=>∃ F1 F2 c1 c2,F=F1++F2/\xs=c1++c2/\zuf y F1 w c1/\zeQ ys F2 w c2
end
def znf {l:List DStmt} (h:l=[]) {w:wD} (Fi:List Nat) (xs:List vL) (hc:zeQ l Fi w xs):Fi=[]:=by
 subst h;rw [zeQ] at hc;exact hc.1
def zyU {t:DStmt} {F:List Nat} {w:wD} {cs:List vL} (h:zuf t F w cs):cs.length=8:=by
 cases t;rw [zuf] at h;obtain ⟨_,_,_,_,_,_,_,rfl,_,_,ht,_⟩:=h;have:=Rep.len ht;simp only [qam,qab,qaI,this];rfl
def zyV {t:DStmt} {F:List Nat} {w:wD} {cs:List vL} (h:zuf t F w cs):∀ v∈cs,v.oneCell'=true:=by
 cases t;rw [zuf] at h;obtain ⟨_,_,_,_,_,_,_,rfl,_,_,ht,hb,he⟩:=h;intro v hv;simp only [qaa,qae,qag,qaz] at hv;rcases hv with rfl | rfl | hv | rfl | rfl
 . rfl
 . rfl
 . exact Rep.one ht v hv
 . exact zwd hb
 exact zwd he
mutual
theorem zpO:∀ (t:DStmt) {F:List Nat} {w w':wD} {cs:List vL},zuf t F w cs->(∀ b∈F,w'.heap[b]?=w.heap[b]?)->zuf t F w' cs
  | .mk k s t bs es,F,w,w',cs,h,hk=>by
    rw [zuf] at h ⊢;obtain ⟨Ft,ct,Fb,cb,Fe,ce,hF,hcs,i1,i2,ht,hb,he⟩:=h;subst hF
    exact ⟨Ft,ct,Fb,cb,Fe,ce,rfl,hcs,i1,i2,Rep.keep ht λb hb=>hk b (by simp [hb]),
      zsT hb (λb hb=>hk b (by simp [hb])) (λFi xs hc hx=>zih bs hc hx) λh=>znf h,
      zsT he (λb hb=>hk b (by simp [hb])) (λFi xs hc hx=>zih es hc hx) λh=>znf h⟩
theorem zih:∀ (l:List DStmt) {F:List Nat} {w w':wD} {cs:List vL},zeQ l F w cs->(∀ b∈F,w'.heap[b]?=w.heap[b]?)->zeQ l F w' cs
  | [],F,w,w',cs,h,_=>by rw [zeQ] at h ⊢;exact h
  | y :: ys,F,w,w',cs,h,hk=>by
    rw [zeQ] at h ⊢;obtain ⟨F1,F2,c1,c2,rfl,rfl,h1,h2⟩:=h;exact ⟨F1,F2,c1,c2,rfl,rfl,zpO y h1 λb hb=>hk b (by simp [hb]),zih ys h2 λb hb=>hk b (by simp [hb])⟩
end
mutual
theorem zwe:∀ (t:DStmt) {F:List Nat} {w:wD} {cs:List vL},zuf t F w cs->∀ b∈F,b<w.heap.size
  | .mk k s t bs es,F,w,cs,h,c,hm=>by
    rw [zuf] at h;obtain ⟨Ft,ct,Fb,cb,Fe,ce,hF,hcs,i1,i2,ht,hb,he⟩:=h;subst hF;rcases qae.1 hm with hm | hm
    . exact Rep.lt ht c hm
    rcases qae.1 hm with hm | hm
    . exact zAW hb (λFi xs hc=>zlo bs hc) c hm
    exact zAW he (λFi xs hc=>zlo es hc) c hm
theorem zlo:∀ (l:List DStmt) {F:List Nat} {w:wD} {cs:List vL},zeQ l F w cs->∀ b∈F,b<w.heap.size
  | [],F,w,cs,h,c,hm=>by rw [zeQ] at h;rw [h.1] at hm;cases hm
  | y :: ys,F,w,cs,h,c,hm=>by
    rw [zeQ] at h;obtain ⟨F1,F2,c1,c2,rfl,rfl,h1,h2⟩:=h;rcases qae.1 hm with hm | hm
    . exact zwe y h1 c hm
    exact zlo ys h2 c hm
end
instance:Rep DStmt where
 size:=8
 agg:=true
 rep F w cs x:=zuf x F w cs
 pos:=by decide
 sz h:=by cases h
 len h:=zyU h
 one h:=zyV h
 keep h hk:=zpO _ h hk
 lt h:=zwe _ h
theorem ziP {w:wD}:∀ {l:List DStmt} {F:List Nat} {xs:List vL},zeQ l F w xs↔Cells F w xs l
 | [],F,xs=>by rw [zeQ];exact Iff.rfl
 | y :: ys,F,xs=>by
   rw [zeQ];constructor
   . rintro ⟨F1,F2,c1,c2,h1,h2,h3,h4⟩;exact ⟨F1,F2,c1,c2,h1,h2,h3,ziP.1 h4⟩
   rintro ⟨F1,F2,c1,c2,h1,h2,h3,h4⟩;exact ⟨F1,F2,c1,c2,h1,h2,h3,ziP.2 h4⟩
def zok {w:wD} {F:List Nat} {c:vL} {l:List DStmt}:slc l.length (l=[]) w F c (λFi xs=>zeQ l Fi w xs)↔rep F w [c] l:=by
 constructor
 . rintro ⟨a,cap,Fi,xs,rfl,h1,h2,h3,h4⟩;exact ⟨a,cap,Fi,xs,rfl,h1,h2,ziP.1 h3,h4⟩
 rintro ⟨a,cap,Fi,xs,hc,h1,h2,h3,h4⟩;exact ⟨a,cap,Fi,xs,by simpa using hc,h1,h2,ziP.2 h3,h4⟩
def zeA {w:wD} {F:List Nat} {cs:List vL} {l:List DStmt} (h:rep F w cs l):∃ c,cs=[c]:=by
 obtain ⟨_,_,_,_,rfl,_⟩:=h;exact ⟨_,rfl⟩
def zeq {w:wD} {F:List Nat} {cs:List vL} {t:DStmt}:rep F w cs t↔rep F w cs t.tup:=by
 obtain ⟨k,s,t,_,_⟩:=t;show zuf _ F w cs↔_;rw [zuf];constructor
 . rintro ⟨Ft,ct,Fb,cb,Fe,ce,rfl,rfl,i1,i2,ht,hb,he⟩;exact ⟨[],_,[.int .i64 k],_,rfl,rfl,⟨rfl,rfl,i1⟩,[],_,[.string s],_,rfl,rfl,⟨rfl,rfl,i2⟩,Ft,Fb++Fe,ct,[cb,ce],rfl,rfl,ht,Fb,Fe,[cb],[ce],rfl,rfl,zok.1 hb,zok.1 he⟩
 rintro ⟨_,_,_,_,rfl,rfl,⟨rfl,rfl,i1⟩,_,_,_,_,rfl,rfl,⟨rfl,rfl,i2⟩,Ft,_,ct,_,rfl,rfl,ht,Fb,Fe,_,_,rfl,rfl,hb,he⟩;obtain ⟨cb,rfl⟩:=zeA hb;obtain ⟨ce,rfl⟩:=zeA he;exact ⟨Ft,ct,Fb,cb,Fe,ce,rfl,rfl,i1,i2,ht,zok.2 hb,zok.2 he⟩
def zwf {w:wD} {b o:Nat} {t:DStmt}:At w b o t↔At w b o t.tup:=
 ⟨λ⟨F,cs,h,k⟩=>⟨F,cs,zeq.1 h,k⟩,λ⟨F,cs,h,k⟩=>⟨F,cs,zeq.2 h,k⟩⟩
def zsU {w:wD} {G:List Nat} {b o:Nat} {t:DStmt}:OAt G w b o t↔OAt G w b o t.tup:=
 ⟨λ⟨cs,h,k⟩=>⟨cs,zeq.1 h,k⟩,λ⟨cs,h,k⟩=>⟨cs,zeq.2 h,k⟩⟩
section
variable {w:wD} {b o:Nat} {x:DStmt}
def zb2 (h:At w b o x):At w b (o+0) x.kind:=zcB (α:=Int) (β:=ByteArray×DTerm×List DStmt×List DStmt) (p:=x.tup) (zwf.1 h)
def zDz (h:At w b o x):At w b (o+1) (x.name,x.term,x.body,x.els):=zbi (α:=Int) (β:=ByteArray×DTerm×List DStmt×List DStmt) (p:=x.tup) (zwf.1 h)
def zaT (h:At w b o x):At w b (o+1) x.name:=zcB (α:=ByteArray) (β:=DTerm×List DStmt×List DStmt) (p:=(x.name,x.term,x.body,x.els)) (zDz h)
def zDA (h:At w b o x):At w b (o+2) (x.term,x.body,x.els):=zbi (α:=ByteArray) (β:=DTerm×List DStmt×List DStmt) (p:=(x.name,x.term,x.body,x.els)) (zDz h)
def zbz (h:At w b o x):At w b (o+2) x.term:=zcB (α:=DTerm) (β:=List DStmt×List DStmt) (p:=(x.term,x.body,x.els)) (zDA h)
def zDB (h:At w b o x):At w b (o+6) (x.body,x.els):=zbi (α:=DTerm) (β:=List DStmt×List DStmt) (p:=(x.term,x.body,x.els)) (zDA h)
def zb3 (h:At w b o x):At w b (o+6) x.body:=zcB (α:=List DStmt) (β:=List DStmt) (p:=(x.body,x.els)) (zDB h)
def zbI (h:At w b o x):At w b (o+7) x.els:=zbi (α:=List DStmt) (β:=List DStmt) (p:=(x.body,x.els)) (zDB h)
def zwg {F0:List Nat} {c0:List vL} (h0:rep F0 w c0 x.kind) {F1:List Nat} {c1:List vL} (h1:rep F1 w c1 x.name) {F2:List Nat} {c2:List vL} (h2:rep F2 w c2 x.term) {F3:List Nat} {c3:List vL} (h3:rep F3 w c3 x.body) {F4:List Nat} {c4:List vL} (h4:rep F4 w c4 x.els) :
   rep (F0++(F1++(F2++(F3++F4)))) w (c0++(c1++(c2++(c3++c4)))) x:=zeq.2 (zaQ h0 (zaQ h1 (zaQ h2 (zaQ h3 h4))))
end
def Lens.stmt {w:wD} {γ:Type} {H:List Nat->wD->γ->Prop} {F:List Nat} {b o:Nat} {G:List Nat} {t:DStmt} {upd:DStmt->γ} (h:Lens H F w b o G t upd) :
   Lens H F w b o G t.tup (λp=>upd (.mk p.1 p.2.1 p.2.2.1 p.2.2.2.1 p.2.2.2.2)):=
 ⟨zsU.1 h.here,h.sub,λw' G' y' hc hO hs=>h.back w' G' _ hc (zsU.2 hO) hs⟩
instance:RepZ DStmt:=⟨.mk 0 ByteArray.empty RepZ.zv [] [],RepZ.zc (Int×ByteArray×DTerm×List DStmt×List DStmt),λw=>zeq.2 (RepZ.zr (α:=Int×ByteArray×DTerm×List DStmt×List DStmt) w)⟩
section
variable {γ:Type} {H:List Nat->wD->γ->Prop} {F:List Nat} {w:wD} {b o:Nat} {G:List Nat} {x:DStmt} {upd:DStmt->γ}
def zpP (h:Lens H F w b o G x upd):∃ G1,Lens H F w b (o+0) G1 x.kind (λy=>upd (.mk y x.name x.term x.body x.els)):=by
 obtain ⟨G1,h1⟩:=h.stmt.fst;exact ⟨G1,h1⟩
def zkg (h:Lens H F w b o G x upd):∃ G1,Lens H F w b (o+1) G1 x.name (λy=>upd (.mk x.kind y x.term x.body x.els)):=by
 obtain ⟨G1,h1⟩:=h.stmt.snd;obtain ⟨G2,h2⟩:=h1.fst;exact ⟨G2,h2⟩
def zkh (h:Lens H F w b o G x upd):∃ G1,Lens H F w b (o+2) G1 x.term (λy=>upd (.mk x.kind x.name y x.body x.els)):=by
 obtain ⟨G1,h1⟩:=h.stmt.snd;obtain ⟨_,h2⟩:=h1.snd;obtain ⟨G3,h3⟩:=h2.fst;exact ⟨G3,h3⟩
def zki (h:Lens H F w b o G x upd):∃ G1,Lens H F w b (o+6) G1 x.body (λy=>upd (.mk x.kind x.name x.term y x.els)):=by
 obtain ⟨G1,h1⟩:=h.stmt.snd;obtain ⟨_,h2⟩:=h1.snd;obtain ⟨_,h3⟩:=h2.snd;obtain ⟨G4,h4⟩:=h3.fst;exact ⟨G4,h4⟩
def zkj (h:Lens H F w b o G x upd):∃ G1,Lens H F w b (o+7) G1 x.els (λy=>upd (.mk x.kind x.name x.term x.body y)):=by
 obtain ⟨G1,h1⟩:=h.stmt.snd;obtain ⟨_,h2⟩:=h1.snd;obtain ⟨_,h3⟩:=h2.snd;obtain ⟨G4,h4⟩:=h3.snd;exact ⟨G4,h4⟩
end
structure DProc where
 name:ByteArray
 body:List DStmt
def DProc.ext_iff {x y:DProc}:x=y↔(x.name=y.name/\x.body=y.body):=⟨λh=>by rw [h];exact ⟨rfl,rfl⟩,λh=>by obtain ⟨h0,h1⟩:=h;cases x;cases y;simp only at h0 h1;simp only [h0,h1]⟩
instance:Rep DProc:=Rep.via λx=>(x.name,x.body)
def ze5 {w:wD} {b o:Nat} {x:DProc} (h:At w b o x):At w b (o+0) x.name:=zcB (α:=ByteArray) (β:=(List DStmt)) (p:=(x.name,x.body)) h
def zhC {w:wD} {b o:Nat} {x:DProc} (h:At w b o x):At w b (o+1) x.body:=zbi (α:=ByteArray) (β:=(List DStmt)) (p:=(x.name,x.body)) h
instance:RepZ DProc:=⟨⟨(RepZ.zv:ByteArray),(RepZ.zv:List DStmt)⟩,RepZ.zc (ByteArray×(List DStmt)),λw=>RepZ.zr (α:=ByteArray×(List DStmt)) w⟩
structure DProg where
 globals:List ByteArray
 locks:List ByteArray
 procs:List DProc
def DProg.ext_iff {x y:DProg}:x=y↔(x.globals=y.globals/\x.locks=y.locks/\x.procs=y.procs):=⟨λh=>by rw [h];exact ⟨rfl,rfl,rfl⟩,λh=>by obtain ⟨h0,h1,h2⟩:=h;cases x;cases y;simp only at h0 h1 h2;simp only [h0,h1,h2]⟩
instance:Rep DProg:=Rep.via λx=>(x.globals,x.locks,x.procs)
def zc5 {w:wD} {b o:Nat} {x:DProg} (h:At w b o x):At w b (o+0) x.globals:=zcB (α:=List ByteArray) (β:=(List ByteArray)×(List DProc)) (p:=(x.globals,x.locks,x.procs)) h
def zdN {w:wD} {b o:Nat} {x:DProg} (h:At w b o x):At w b (o+1) x.locks:=zcB (α:=List ByteArray) (β:=(List DProc)) (p:=(x.locks,x.procs)) (zbi (α:=List ByteArray) (β:=(List ByteArray)×(List DProc)) (p:=(x.globals,x.locks,x.procs)) h)
def zbJ {w:wD} {b o:Nat} {x:DProg} (h:At w b o x):At w b (o+2) x.procs:=zbi (α:=List ByteArray) (β:=(List DProc)) (p:=(x.locks,x.procs)) (zbi (α:=List ByteArray) (β:=(List ByteArray)×(List DProc)) (p:=(x.globals,x.locks,x.procs)) h)
instance:RepZ DProg:=⟨⟨(RepZ.zv:List ByteArray),(RepZ.zv:List ByteArray),(RepZ.zv:List DProc)⟩,RepZ.zc ((List ByteArray)×(List ByteArray)×(List DProc)),λw=>RepZ.zr (α:=(List ByteArray)×(List ByteArray)×(List DProc)) w⟩
section
variable {w:wD} {lo hi:Nat}
def zc0 {k n:Int} {s:ByteArray} {v:vL} {l:List DTerm} (hk:I64 k) (hn:I64 n) (hs:s.size<=maxLen) (h:OwnI lo hi w v l):OwnI lo hi w (.agg #[.int .i64 k,.int .i64 n,.string s,v]) (DTerm.mk k n s l):=by
 obtain ⟨F,⟨⟨_,hr,rfl⟩,g0,hw⟩,hF⟩:=h;obtain ⟨a,cap,Fi,xs,rfl,h1,h2,hc,h4⟩:=hr;exact ⟨F,⟨⟨_,zwa (x:=.mk k n s l) (F0:=[]) (F1:=[]) (F2:=[]) ⟨rfl,rfl,hk⟩ ⟨rfl,rfl,hn⟩ ⟨rfl,rfl,hs⟩ ⟨a,cap,Fi,xs,rfl,h1,h2,hc,h4⟩,rfl⟩,g0,hw⟩,hF⟩
def zhD {v:vL} {t:DTerm} (h:Is w v t):∃ a cap,v=.agg #[.int .i64 t.kind,.int .i64 t.num,.string t.name,.slice a t.kids.length cap]:=by
 obtain ⟨F,cs,hr,rfl⟩:=h;obtain ⟨k,n,s,ks⟩:=t;rw [show rep F w cs (DTerm.mk k n s ks)=zrx (.mk k n s ks) F w cs from rfl,zrx] at hr;obtain ⟨a,cap,_,_,rfl,_⟩:=hr;exact ⟨a,cap,rfl⟩
def zwh {k:Int} {s:ByteArray} {t:DTerm} {vb ve:vL} {bs es:List DStmt} {tc:Array vL} {l0 h0 l1 h1 l2 h2:Nat} (hk:I64 k) (hs:s.size<=maxLen) (ht:OwnI l0 h0 w (.agg tc) t) (hb:OwnI l1 h1 w vb bs) (he:OwnI l2 h2 w ve es)
   (d01:h0<=l1\/h1<=l0) (d02:h0<=l2\/h2<=l0) (d12:h1<=l2\/h2<=l1) (b0:lo<=l0/\h0<=hi) (b1:lo<=l1/\h1<=hi) (b2:lo<=l2/\h2<=hi) :
   OwnI lo hi w (.agg ([Value.int .i64 k,Value.string s]++tc.toList++[vb,ve]).toArray) (DStmt.mk k s t bs es):=by
 obtain ⟨F0,⟨⟨c0,r0,e0⟩,n0,w0⟩,B0⟩:=ht;obtain ⟨F1,⟨⟨_,r1,e1⟩,n1,w1⟩,B1⟩:=hb;obtain ⟨F2,⟨⟨_,r2,e2⟩,n2,w2⟩,B2⟩:=he
 have g0:tc.toList=c0:=by
   simp only [mkv,Rep.agg,cond_true,Value.agg.injEq] at e0;rw [e0]
 obtain ⟨_,rfl⟩:=zeA r1;obtain ⟨_,rfl⟩:=zeA r2;simp only [mkv,Rep.agg,cond_false,qbO] at e1 e2;subst e1 e2;refine ⟨F0++(F1++F2),⟨⟨_,zwg (x:=.mk k s t bs es) (F0:=[]) (F1:=[]) ⟨rfl,rfl,hk⟩ ⟨rfl,rfl,hs⟩ r0 r1 r2,?_⟩,?_,w0.append (w1.append w2)⟩,λx hx=>?_⟩
 . rw [g0];simp [mkv,Rep.agg,DStmt.kind,DStmt.name]
 . rw [qav,qav];refine ⟨n0,⟨n1,n2,λp hp q hq e=>?_⟩,λp hp q hq e=>?_⟩
   . subst e;have:=B1 p hp;have:=B2 p hq;omega
   subst e;have:=B0 p hp;rcases qae.1 hq with hq | hq
   . have:=B1 p hq;omega
   have:=B2 p hq;omega
 rcases qae.1 hx with hx | hx
 . have:=B0 x hx;omega
 rcases qae.1 hx with hx | hx
 . have:=B1 x hx;omega
 have:=B2 x hx;omega
end
end Go.Sh
namespace Go.Proofs.YtkgiigmcbgifdaaGreatDoor
open Go Go.Sh Go.Proofs
open Rep (rep)
variable {b i j o:Nat} {w:wD}
structure DSign where
 kind:Int
 text:ByteArray
 at_:Int
def DSign.ext_iff {x y:DSign}:x=y↔(x.kind=y.kind/\x.text=y.text/\x.at_=y.at_):=⟨λh=>by rw [h];exact ⟨rfl,rfl,rfl⟩,λh=>by obtain ⟨h0,h1,h2⟩:=h;cases x;cases y;simp only at h0 h1 h2;simp only [h0,h1,h2]⟩
instance:DecidableEq DSign:=λx y=>decidable_of_iff (x.kind=y.kind/\x.text=y.text/\x.at_=y.at_) DSign.ext_iff.symm
instance:Rep DSign:=Rep.via λx=>(x.kind,x.text,x.at_)
def zng {x:DSign} (h:At w b o x):At w b (o+0) x.kind:=zcB (α:=Int) (β:=ByteArray×Int) (p:=(x.kind,x.text,x.at_)) h
def zf2 {x:DSign} (h:At w b o x):At w b (o+1) x.text:=zcB (α:=ByteArray) (β:=Int) (p:=(x.text,x.at_)) (zbi (α:=Int) (β:=ByteArray×Int) (p:=(x.kind,x.text,x.at_)) h)
def znh {x:DSign} (h:At w b o x):At w b (o+2) x.at_:=zbi (α:=ByteArray) (β:=Int) (p:=(x.text,x.at_)) (zbi (α:=Int) (β:=ByteArray×Int) (p:=(x.kind,x.text,x.at_)) h)
instance:RepZ DSign:=⟨⟨(RepZ.zv:Int),(RepZ.zv:ByteArray),(RepZ.zv:Int)⟩,RepZ.zc (Int×ByteArray×Int),λw=>RepZ.zr (α:=Int×ByteArray×Int) w⟩
def zyW {x:DSign} (h_kind:I64 x.kind) (h_text:x.text.size<=maxLen) (h_at_:I64 x.at_):Mine [] w (.agg #[.int .i64 x.kind,.string x.text,.int .i64 x.at_]) x:=⟨⟨[.int .i64 x.kind,.string x.text,.int .i64 x.at_],⟨[],[],[.int .i64 x.kind],[.string x.text,.int .i64 x.at_],rfl,rfl,⟨rfl,rfl,h_kind⟩,⟨[],[],[.string x.text],[.int .i64 x.at_],rfl,rfl,⟨rfl,rfl,h_text⟩,⟨rfl,rfl,h_at_⟩⟩⟩,rfl⟩,qas,Wr.nil w⟩
instance:Flat DSign:=⟨λh=>Flat.flat (α:=Int×ByteArray×Int) h⟩
structure DFault where
 code:Int
 at_:Int
def DFault.ext_iff {x y:DFault}:x=y↔(x.code=y.code/\x.at_=y.at_):=⟨λh=>by rw [h];exact ⟨rfl,rfl⟩,λh=>by obtain ⟨h0,h1⟩:=h;cases x;cases y;simp only at h0 h1;simp only [h0,h1]⟩
instance:DecidableEq DFault:=λx y=>decidable_of_iff (x.code=y.code/\x.at_=y.at_) DFault.ext_iff.symm
instance:Rep DFault:=Rep.via λx=>(x.code,x.at_)
instance:RepZ DFault:=⟨⟨(RepZ.zv:Int),(RepZ.zv:Int)⟩,RepZ.zc (Int×Int),λw=>RepZ.zr (α:=Int×Int) w⟩
def zwi {x:DFault} (h_code:I64 x.code) (h_at_:I64 x.at_):Mine [] w (.agg #[.int .i64 x.code,.int .i64 x.at_]) x:=⟨⟨[.int .i64 x.code,.int .i64 x.at_],⟨[],[],[.int .i64 x.code],[.int .i64 x.at_],rfl,rfl,⟨rfl,rfl,h_code⟩,⟨rfl,rfl,h_at_⟩⟩,rfl⟩,qas,Wr.nil w⟩
instance:Flat DFault:=⟨λh=>Flat.flat (α:=Int×Int) h⟩
def sgT (L:List DSign) (i:Nat):ByteArray:=match L[i]? with | some x=>x.text | none=>ByteArray.mk #[]
def sgK (L:List DSign) (i:Nat):Int:=match L[i]? with | some x=>x.kind | none=>0
def ftA (L:List DSign) (e:Int) (c:Int) (i:Nat):DFault:=⟨c,match L[i]? with | some x=>x.at_ | none=>e⟩
def zfS {L:List DSign} (h:i<L.length):L[i].text=sgT L i:=by unfold sgT;rw [List.getElem?_eq_getElem h]
def zol {L:List DSign} (h:i<L.length):L[i].kind=sgK L i:=by unfold sgK;rw [List.getElem?_eq_getElem h]
def zom {L:List DSign} {e c:Int} (h:i<L.length):ftA L e c i=⟨c,L[i].at_⟩:=by unfold ftA;rw [List.getElem?_eq_getElem h]
def zon {L:List DSign} {e c:Int} (h:L.length<=i):ftA L e c i=⟨c,e⟩:=by unfold ftA;rw [List.getElem?_eq_none h]
def zgE {L:List DSign} (h:L.length<=i):sgT L i=ByteArray.mk #[]:=by unfold sgT;rw [List.getElem?_eq_none h]
def zoo {L:List DSign} (h:L.length<=i):sgK L i=0:=by unfold sgK;rw [List.getElem?_eq_none h]
def atT (L:List DSign) (i:Nat) (t:ByteArray):Prop:=sgT L i=t
instance (L:List DSign) (i:Nat) (t:ByteArray):Decidable (atT L i t):=inferInstanceAs (Decidable (sgT L i=t))
def zg2 {L:List DSign} {t:ByteArray} (h:atT L i t) (ht:t≠ByteArray.mk #[]):i<L.length:=by
 rcases qaw i L.length with h1 | h1
 . exact h1
 exact absurd (h.symm.trans (zgE h1)) ht
def zlp (l:List UInt8):Int:=l.foldl (λn b=>n*10+((b.toNat:Int)-48)) 0
abbrev Rd (α:Type):=Except DFault (α×Nat)
def Rd.go {α β:Type}:Rd α->(α->Nat->Rd β)->Rd β
 | .error f,_=>.error f
 | .ok (x,i),k=>k x i
def zpQ:ByteArray:=.mk #[40]
def zpR:ByteArray:=.mk #[41]
def zBT:ByteArray:=.mk #[110,111,116]
def zDC:ByteArray:=.mk #[61]
def zdV:ByteArray:=.mk #[59]
def zni:ByteArray:=.mk #[44]
def zop:ByteArray:=.mk #[123]
def ziQ:ByteArray:=.mk #[125]
def zug:ByteArray:=.mk #[101,108,115,101]
def zdW:ByteArray:=.mk #[112,114,111,99]
def zwj:ByteArray:=.mk #[103,108,111,98,97,108,115]
def zuh:ByteArray:=.mk #[108,111,99,107,115]
def signs9:List ByteArray:=[.mk #[],.mk #[],.mk #[],.mk #[43],.mk #[45],.mk #[42],.mk #[60],.mk #[61,61],.mk #[110,111,116],.mk #[97,110,100]]
def words9:List ByteArray:=[.mk #[],.mk #[],.mk #[105,102],.mk #[119,104,105,108,101],.mk #[99,97,108,108],.mk #[115,112,97,119,110],.mk #[108,111,99,107],.mk #[117,110,108,111,99,107],.mk #[115,107,105,112]]
def opN (t:ByteArray):Nat:=if t=.mk #[43] then 3 else if t=.mk #[45] then 4 else if t=.mk #[42] then 5 else if t=.mk #[60] then 6 else if t=.mk #[61,61] then 7 else if t=.mk #[97,110,100] then 9 else 0
def wkK (t:ByteArray):Nat:=if t=.mk #[105,102] then 2 else if t=.mk #[119,104,105,108,101] then 3 else if t=.mk #[99,97,108,108] then 4 else if t=.mk #[115,112,97,119,110] then 5 else if t=.mk #[108,111,99,107] then 6
 else if t=.mk #[117,110,108,111,99,107] then 7 else if t=.mk #[115,107,105,112] then 8 else if zaz t=true then 1 else 0
def zoq {L:List DSign} (h:zaz (sgT L i)=true):i<L.length:=by
 rcases qaw i L.length with h1 | h1
 . exact h1
 rw [zgE h1] at h;cases h
def zBU {L:List DSign} (h:wkK (sgT L i)≠0):i<L.length:=by
 rcases qaw i L.length with h1 | h1
 . exact h1
 rw [zgE h1] at h;exact absurd dD h
def tmE:ByteArray:=.mk #[]
def tm0:DTerm:=.mk 0 0 tmE []
section
variable (L:List DSign) (e:Int)
def zeJ (t:ByteArray) (i:Nat):Rd Unit:=if atT L i t then .ok ((),i+1) else .error (ftA L e 3 i)
def zhe (i:Nat):Rd ByteArray:=if zaz (sgT L i)=true then .ok (sgT L i,i+1) else .error (ftA L e 3 i)
def pIn (rec:Nat->Rd DTerm) (i:Nat):Rd DTerm:=
 if atT L i zBT then (rec (i+1)).go λt j=>(zeJ L e zpR j).go λ_ j=>.ok (.mk 8 0 tmE [t],j)
 else (rec i).go λa j=>if opN (sgT L j)=0 then .error (ftA L e 3 j) else (rec (j+1)).go λb j2=>(zeJ L e zpR j2).go λ_ j3=>.ok (.mk (opN (sgT L j):Int) 0 tmE [a,b],j3)
def zry (inner:Nat->Rd DTerm) (i:Nat):Rd DTerm:=
 if zaz (sgT L i)=true then .ok (.mk 2 0 (sgT L i) [],i+1)
 else if sgK L i=2 then .ok (.mk 1 (zlp (bts (sgT L i))) tmE [],i+1)
 else if atT L i zpQ then inner i else .error (ftA L e 3 i)
def zej:Nat->Nat->Rd DTerm
 | 0,i=>zry L e (λi=>.error (ftA L e 4 i)) i
 | r+1,i=>zry L e (λi=>pIn L e (zej r) (i+1)) i
abbrev Blk9:=Nat->Nat->Rd (List DStmt×Nat)
def zd6 (blk:Blk9) (k q i:Nat):Rd (DStmt×Nat):=
 if k=1 then (zeJ L e zDC (i+1)).go λ_ j=>(zej L e 6 j).go λt j=>(zeJ L e zdV j).go λ_ j=>.ok ((.mk 1 (sgT L i) t [] [],q),j)
 else if k=8 then (zeJ L e zdV (i+1)).go λ_ j=>.ok ((.mk 8 tmE tm0 [] [],q),j)
 else if k=2\/k=3 then (zej L e 6 (i+1)).go λt j=>(blk q j).go λb j=>
   if k=3\/¬atT L j zug then .ok ((.mk (k:Int) tmE t b.1 [],b.2),j)
   else if atT L (j+1) zop/\atT L (j+2) ziQ then .error (ftA L e 3 (j+2))
   else (blk b.2 (j+1)).go λc j=>.ok ((.mk (k:Int) tmE t b.1 c.1,c.2),j)
 else (zhe L e (i+1)).go λs j=>(zeJ L e zdV j).go λ_ j=>.ok ((.mk (k:Int) s tm0 [] [],q),j)
def zlq (stmts:Blk9):Blk9:=λq i=>(zeJ L e zop i).go λ_ j=>(stmts q j).go λb j=>(zeJ L e ziQ j).go λ_ j=>.ok (b,j)
def zii (deep:Bool) (blk:Blk9):Nat->Blk9
 | 0,_,i=>.error (ftA L e 5 i)
 | n+1,q,i=>
   if wkK (sgT L i)=0 then .ok (([],q),i)
   else if (wkK (sgT L i)=2\/wkK (sgT L i)=3)/\deep=true then .error (ftA L e 4 i)
   else if q=0 then .error (ftA L e 5 i)
   else (zd6 L e blk (wkK (sgT L i)) (q-1) i).go λs j=>(zii deep blk n s.2 j).go λl j=>.ok ((s.1 :: l.1,l.2),j)
def zbV:Nat->Blk9
 | 0=>λq i=>zii L e true (λ_ i=>.error (ftA L e 4 i)) (q+1) q i
 | r+1=>λq i=>zii L e false (zlq L e (zbV r)) (q+1) q i
def zlr:Nat->Nat->Rd (List ByteArray)
 | 0,i=>if zaz (sgT L i)=true then .error (ftA L e 5 i) else .error (ftA L e 3 i)
 | d+1,i=>(zhe L e i).go λs j=>if atT L j zni then (zlr d (j+1)).go λl j=>.ok (s :: l,j) else (zeJ L e zdV j).go λ_ j=>.ok ([s],j)
def zd8 (word:ByteArray) (i:Nat):Rd (List ByteArray):=(zeJ L e word i).go λ_ j=>if atT L j zdV then .ok ([],j+1) else zlr L e 6 j
def zb4:Nat->Nat->Rd (List DProc)
 | 0,i=>if L.length<=i then .ok ([],i) else if atT L i zdW then .error (ftA L e 5 i) else .error (ftA L e 3 i)
 | d+1,i=>if L.length<=i then .ok ([],i) else (zeJ L e zdW i).go λ_ j=>(zhe L e j).go λs j=>(zlq L e (zbV L e 6) 60 j).go λb j=>(zb4 d j).go λl j=>.ok (⟨s,b.1⟩ :: l,j)
def zij:Rd DProg:=(zd8 L e zwj 0).go λg j=>(zd8 L e zuh j).go λl j=>(zb4 L e 8 j).go λp j=>.ok (⟨g,l,p⟩,j)
end
theorem zct {α β:Type} {r:Rd α} {k:α->Nat->Rd β} {y:β} (h:r.go k=.ok (y,j)):∃ x i,r=.ok (x,i)/\k x i=.ok (y,j):=by
 match r,h with
 | .ok (x,i),h=>exact ⟨x,i,rfl,h⟩
section
variable {L:List DSign} {e:Int}
def zyX (b:Blk9):Prop:=∀ q i l q' j,b q i=.ok ((l,q'),j)->q'<=q
def zpS {b:Blk9} (h:zyX b):zyX (zlq L e b):=λq i l q' j hb=>by
 unfold zlq at hb;obtain ⟨_,i1,_,hb⟩:=zct hb;obtain ⟨⟨l2,q2⟩,i2,h2,hb⟩:=zct hb;obtain ⟨_,i3,_,hb⟩:=zct hb;simp only [Except.ok.injEq,qaB] at hb;have:=h _ _ _ _ _ h2;omega
def zf3 {b:Blk9} (h:zyX b) {k q i:Nat} {s:DStmt} {q' j:Nat} (hb:zd6 L e b k q i=.ok ((s,q'),j)):q'<=q:=by
 unfold zd6 at hb;split at hb
 . obtain ⟨_,i1,_,hb⟩:=zct hb;obtain ⟨_,i2,_,hb⟩:=zct hb;obtain ⟨_,_,_,hb⟩:=zct hb;simp only [Except.ok.injEq,qaB] at hb;omega
 split at hb
 . obtain ⟨_,i1,_,hb⟩:=zct hb;simp only [Except.ok.injEq,qaB] at hb;omega
 split at hb
 . obtain ⟨_,i1,_,hb⟩:=zct hb;obtain ⟨⟨_,_⟩,i2,h2,hb⟩:=zct hb;have:=h _ _ _ _ _ h2;split at hb
   . simp only [Except.ok.injEq,qaB] at hb;omega
   split at hb
   . cases hb
   obtain ⟨⟨_,_⟩,_,h4,hb⟩:=zct hb;have h5:=h _ _ _ _ _ h4;simp only [Except.ok.injEq,qaB] at hb h5;omega
 obtain ⟨_,i1,_,hb⟩:=zct hb;obtain ⟨_,i2,_,hb⟩:=zct hb;simp only [Except.ok.injEq,qaB] at hb;omega
theorem zjC {deep:Bool} {b:Blk9} (h:zyX b):∀ n,zyX (zii L e deep b n)
 | 0=>λq i l q' j hb=>by cases hb
 | n+1=>λq i l q' j hb=>by
   unfold zii at hb;split at hb
   . simp only [Except.ok.injEq,qaB] at hb;omega
   split at hb
   . cases hb
   split at hb
   . cases hb
   obtain ⟨⟨s,q2⟩,i2,h2,hb⟩:=zct hb;obtain ⟨⟨l3,q3⟩,i3,h3,hb⟩:=zct hb;have h4:=zf3 h h2;have h5:=zjC h n _ _ _ _ _ h3;simp only [Except.ok.injEq,qaB] at hb h5;omega
theorem zls:∀ r,zyX (zbV L e r)
 | 0=>λq=>zjC (λ_ _ _ _ _ h=>by cases h) _ q
 | r+1=>λq=>zjC (zpS (zls r)) _ q
theorem znj {deep:Bool} {b:Blk9} (h:zyX b):∀ (n m q i:Nat),q<n->q<m->zii L e deep b n q i=zii L e deep b m q i
 | 0,m,q,i,h1,_=>oo
 | n+1,0,q,i,_,h2=>oo
 | n+1,m+1,q,i,h1,h2=>by
   rw [zii,zii];split
   . rfl
   split
   . rfl
   split
   . rfl
   rename_i hq
   match hs:zd6 L e b (wkK (sgT L i)) (q-1) i with
   | .error f=>rfl
   | .ok ((s,q2),j)=>
     have:=zf3 h hs;simp only [Rd.go];rw [znj h n m q2 j oo oo]
theorem zhE {deep:Bool} {b:Blk9} (h:zyX b) (q i:Nat):zii L e deep b (q+1) q i =
   if wkK (sgT L i)=0 then .ok (([],q),i)
   else if (wkK (sgT L i)=2\/wkK (sgT L i)=3)/\deep=true then .error (ftA L e 4 i)
   else if q=0 then .error (ftA L e 5 i)
   else (zd6 L e b (wkK (sgT L i)) (q-1) i).go λs j=>(zii L e deep b (s.2+1) s.2 j).go λl j=>.ok ((s.1 :: l.1,l.2),j):=by
 rw [zii];split
 . rfl
 split
 . rfl
 split
 . rfl
 rename_i hq
 match hs:zd6 L e b (wkK (sgT L i)) (q-1) i with
 | .error f=>rfl
 | .ok ((s,q2),j)=>
   have:=zf3 h hs;simp only [Rd.go];rw [znj h q (q2+1) q2 j oo oo]
def pre {α:Type} (dn:List α) (r:Rd (List α×Nat)):Rd (List α×Nat):=r.go λl j=>.ok ((dn++l.1,l.2),j)
theorem zwk {α:Type} (r:Rd (List α×Nat)):pre [] r=r:=by
 match r with
 | .error f=>rfl
 | .ok ((l,q),j)=>rfl
theorem zAX {α β:Type} {dn:List α} {s:α} (r:Rd (List α×Nat)):pre dn (r.go λl j=>.ok ((s :: l.1,l.2),j))=pre (dn++[s]) r:=by
 match r with
 | .error f=>rfl
 | .ok ((l,q),j)=>simp [pre,Rd.go]
end
open Go.Shelf
def Tryz.laysM171_ren:Go.Shelf.Ren:=⟨fun | 171=>59 | 243=>127 | 246=>201 | 283=>256 | 284=>257 | 285=>258 | 286=>259 | 129=>229 | 317=>298 | 318=>299 | 319=>300 | 320=>301 | 337=>313 | 338=>314 | n=>n,fun | 3=>3 | 9=>9 | 2=>2 | 4=>4 | 171=>270 | 0=>0 | 53=>207 | 37=>24 | 5=>5 | 173=>272 | 212=>302 | 51=>258 | 20=>20 | 213=>303 | 46=>187 | 232=>315 | 233=>316 | n=>n,fun | 17=>1 | 18=>2 | 19=>3 | n=>n⟩
def Tryz.laysM171:Go.Proofs.LaysM.n171 tp Tryz.laysM171_ren where
 mixed:=by kernel_rfl
 f129:=Tryz.func229.trans (qat some kK)
 f171:=Tryz.func59.trans (qat some kK)
 f243:=Tryz.func127.trans (qat some kK)
 f246:=Tryz.func201.trans (qat some kK)
 f283:=Tryz.func256.trans (qat some kK)
 f284:=Tryz.func257.trans (qat some kK)
 f285:=Tryz.func258.trans (qat some kK)
 f286:=Tryz.func259.trans (qat some kK)
 f317:=Tryz.func298.trans (qat some kK)
 f318:=Tryz.func299.trans (qat some kK)
 f319:=Tryz.func300.trans (qat some kK)
 f320:=Tryz.func301.trans (qat some kK)
 f337:=Tryz.func313.trans (qat some kK)
 f338:=Tryz.func314.trans (qat some kK)
 t0:=Tryz.underlying0
 a0:=Tryz.isAgg0
 z0:=Tryz.sizeOf0
 v0:=Tryz.zeroValue0
 t2:=Tryz.underlying2
 a2:=Tryz.isAgg2
 z2:=Tryz.sizeOf2
 v2:=Tryz.zeroValue2
 t3:=Tryz.underlying3
 a3:=Tryz.isAgg3
 z3:=Tryz.sizeOf3
 v3:=Tryz.zeroValue3
 t4:=Tryz.underlying4
 a4:=Tryz.isAgg4
 z4:=Tryz.sizeOf4
 v4:=Tryz.zeroValue4
 t5:=Tryz.underlying5
 a5:=Tryz.isAgg5
 z5:=Tryz.sizeOf5
 v5:=Tryz.zeroValue5
 t9:=Tryz.underlying9
 a9:=Tryz.isAgg9
 z9:=Tryz.sizeOf9
 v9:=Tryz.zeroValue9
 t20:=Tryz.underlying20
 a20:=Tryz.isAgg20
 z20:=Tryz.sizeOf20
 v20:=Tryz.zeroValue20
 t37:=Tryz.underlying24
 a37:=Tryz.isAgg24
 z37:=Tryz.sizeOf24
 v37:=Tryz.zeroValue24
 t46:=Tryz.underlying187
 a46:=Tryz.isAgg187
 z46:=Tryz.sizeOf187
 v46:=Tryz.zeroValue187
 t51:=Tryz.underlying258
 a51:=Tryz.isAgg258
 z51:=Tryz.sizeOf258
 v51:=Tryz.zeroValue258
 t53:=Tryz.underlying207
 a53:=Tryz.isAgg207
 z53:=Tryz.sizeOf207
 v53:=Tryz.zeroValue207
 t171:=Tryz.underlying270
 a171:=Tryz.isAgg270
 z171:=Tryz.sizeOf270
 v171:=Tryz.zeroValue270
 t173:=Tryz.underlying272
 a173:=Tryz.isAgg272
 z173:=Tryz.sizeOf272
 v173:=Tryz.zeroValue272
 t212:=Tryz.underlying302
 a212:=Tryz.isAgg302
 z212:=Tryz.sizeOf302
 v212:=Tryz.zeroValue302
 t213:=Tryz.underlying303
 a213:=Tryz.isAgg303
 z213:=Tryz.sizeOf303
 t232:=Tryz.underlying315
 a232:=Tryz.isAgg315
 z232:=Tryz.sizeOf315
 v232:=Tryz.zeroValue315
 t233:=Tryz.underlying316
 a233:=Tryz.isAgg316
 z233:=Tryz.sizeOf316
 v233:=Tryz.zeroValue316
 g17:=by kernel_rfl
 g18:=by kernel_rfl
 g19:=by kernel_rfl
 i0:=by kernel_rfl
 i2:=by kernel_rfl
 i3:=by kernel_rfl
 i4:=by kernel_rfl
 i5:=by kernel_rfl
 i9:=by kernel_rfl
 i20:=by kernel_rfl
 i37:=by kernel_rfl
 i46:=by kernel_rfl
 i51:=by kernel_rfl
 i53:=by kernel_rfl
 i171:=by kernel_rfl
 i173:=by kernel_rfl
 i212:=by kernel_rfl
 i232:=by kernel_rfl
 i233:=by kernel_rfl
 m17:=by kernel_rfl
 m18:=by kernel_rfl
 m19:=by kernel_rfl
end Go.Proofs.YtkgiigmcbgifdaaGreatDoor
namespace Go.Sh
open Go.RowKit (Below)
open Rep (rep)
theorem zkF (off:Nat):∀ (l:List vL) (k:Nat) (cs:Array vL),
   ((l.zipIdx k).foldl (λ(cs:Array vL) (p:vL×Nat)=>cs.setIfInBounds (off+p.2) p.1) cs).size=cs.size /\
   ∀ i,((l.zipIdx k).foldl (λ(cs:Array vL) (p:vL×Nat)=>cs.setIfInBounds (off+p.2) p.1) cs)[i]?=if off+k<=i/\i<off+k+l.length/\i<cs.size then l[i-(off+k)]? else cs[i]?
 | [],k,cs=>by
   refine ⟨rfl,λi=>?_⟩;rw [qad so];rfl
 | v :: l,k,cs=>by
   obtain ⟨h1,h2⟩:=zkF off l (k+1) (cs.setIfInBounds (off+k) v);simp only [List.zipIdx_cons,qbQ];refine ⟨by rw [h1];simp,λi=>?_⟩;rw [h2];simp only [qcS,qam];by_cases hi:i=off+k
   . subst hi;rw [qad oo];by_cases hs:off+k<cs.size
     . rw [qah oo];simp [hs]
     rw [qad oo,Array.getElem?_eq_none (by rw [qcS];omega),Array.getElem?_eq_none oo]
   by_cases hr:off+(k+1)<=i/\i<off+(k+1)+l.length/\i<cs.size
   . rw [qah hr,qah oo];have:i-(off+k)=(i-(off+(k+1)))+1:=oo;rw [this,List.getElem?_cons_succ]
   rw [qad hr,qad oo,Array.getElem?_setIfInBounds_ne oo]
def zsV (v:vL) (cells:Array vL) (s:Nat) (hv:v.cells.size=s) (hc:cells.size=s):Instr.fill (λi=>some (i*s,s)) cells [(0,v)]=some v.cells:=by
 unfold Instr.fill;simp only [Nat.zero_mul];rw [qad so];unfold Instr.fill;congr 1;obtain ⟨_,h2⟩:=zkF 0 v.cells.toList 0 cells
 have e:v.cells.zipIdx.foldl (λ(cs:Array vL) (x:vL×Nat)=>match x with | (c,j)=>cs.setIfInBounds (0+j) c) cells
     = (v.cells.toList.zipIdx 0).foldl (λ(cs:Array vL) (p:vL×Nat)=>cs.setIfInBounds (0+p.2) p.1) cells:=by
   rw [<-Array.foldl_toList,Array.toList_zipIdx]
 rw [e];apply Array.ext_getElem?;intro i;rw [h2];by_cases hi:i<s
 . rw [qah so];simp
 rw [qad so,Array.getElem?_eq_none oo,Array.getElem?_eq_none oo]
section
variable {w w' w'':wD} {lo hi a b:Nat}
end
def RowI {α:Type} [Rep α] (lo hi:Nat) (e:TypeId) (w:wD) (v:vL) (l:List α):Prop:=(∃ a,v=.slice a 0 0/\l=[])\/∃ F,RowF F e w v l/\F.Nodup/\∀ b∈F,lo<=b/\b<hi
section
variable {P:pG} {w w0 w':wD} {α:Type} [Rep α] {lo hi a b e:Nat} {v:vL} {l:List α}
def zlt (a:Option Addr):OwnI (α:=List α) lo hi w (.slice a 0 0) []:=
 ⟨[],⟨⟨_,⟨a,0,[],[],rfl,lr _,z0 _,⟨rfl,rfl⟩,.inl ⟨rfl,rfl⟩⟩,rfl⟩,qas,Wr.nil w⟩,ss⟩
def Row.toI (h:Row lo e w v l):RowI lo w.heap.size e w v l:=by
 obtain ⟨F,h1,h2,h3⟩:=h;exact .inr ⟨F,h1,h2,λb hb=>⟨h3 b hb,h1.lt b hb⟩⟩
def RowI.ext (h:RowI lo hi e w v l) (hx:Ext w w'):RowI lo hi e w' v l:=by
 rcases h with h | ⟨F,h1,h2,h3⟩
 . exact .inl h
 exact .inr ⟨F,h1.ext hx,h2,h3⟩
def RowI.chg (h:RowI lo hi e w v l) (hc:ChgI a b w w') (hd:hi<=a\/b<=lo):RowI lo hi e w' v l:=by
 rcases h with h | ⟨F,h1,h2,h3⟩
 . exact .inl h
 exact .inr ⟨F,h1.keep λc g0=>hc.block c (h1.lt c g0) (by have:=h3 c g0;omega),h2,h3⟩
def RowI.own (h:RowI lo hi e w v l):OwnI lo hi w v l:=by
 rcases h with ⟨a,rfl,rfl⟩ | ⟨F,h1,h2,h3⟩
 . exact zlt a
 exact ⟨F,⟨h1.own,h2,h1.wr⟩,h3⟩
def RowI.is (h:RowI lo hi e w v l):Is w v l:=h.own.is
def RowI.mono {g0 g1:Nat} (h:RowI lo hi e w v l) (h1:g0<=lo) (h2:hi<=g1):RowI g0 g1 e w v l:=by
 rcases h with h | ⟨F,h1,h2,h3⟩
 . exact .inl h
 exact .inr ⟨F,h1,h2,λb hb=>by have:=h3 b hb;omega⟩
def zcg (lo hi e:Nat) (w:wD) (a:Option Addr):RowI (α:=α) lo hi e w (.slice a 0 0) []:=.inl ⟨a,rfl,rfl⟩
def zbL (lo hi e:Nat) (w:wD):RowI (α:=α) lo hi e w (.slice none 0 0) []:=.inl ⟨none,rfl,rfl⟩
def zlu (e:Nat) (w:wD):RowF (α:=α) [] e w (.slice none 0 0) []:=⟨[],[],⟨ss,.inl ⟨rfl,rfl⟩⟩,⟨rfl,rfl⟩,rfl,Wr.nil _⟩
def zor {m1 m2:Sem vL} {K:vL->wD->Prop} (h:m1.run P w=m2.run P w) (k:OP P m2 w K):OP P m1 w K:=by
 obtain ⟨v,w',hr,hk⟩:=k;exact ⟨v,w',h.trans hr,hk⟩
def zik {t ty:TypeId} {by_ n c:Nat} {x:Addr} {b o:Nat} {xs:List vL} (ht:P.underlying t=some (.slice e)) (he:tyI P e=some (Rep.size α,by_,Rep.agg α)) (g1:(P.info? e).map (λi=>(i.zero.map (·.cells.size)))=some (some (Rep.size α)))
   (hl:xs.length=n*Rep.size α) (hr:w.rangeAt b o xs) (h0:0<n) (hm:n<=maxLen) (hb:n*by_<=140737488355328) :
   (Builtin.append_ #[t,t] ty #[.slice (some x) 0 0,.slice (some ⟨b,o,none⟩) n c]).run P w=(Builtin.append_ #[t,t] ty #[.slice none 0 0,.slice (some ⟨b,o,none⟩) n c]).run P w:=by
 obtain ⟨i,_,hi,_,hs,g0,_⟩:=zdd he;simp only [hi,qcC,qaq] at g1;obtain ⟨z,hz,_⟩:=qaS.1 g1;rw [zak] at hm;have h1:=run_append_nil (P:=P) w t ty e i z ht hi hz ⟨b,o,none⟩ n c xs (by rw [hs];exact hl) (λj u hu=>by rw [Addr.add_mid];exact hr j u hu) h0 oo (by rw [g0];omega);have h2:=run_append_grow (P:=P) w t ty e i z ht hi hz x 0 0 [] ss ss ⟨b,o,none⟩ n c xs (by rw [hs];exact hl) (λj u hu=>by rw [Addr.add_mid];exact hr j u hu) oo oo (growslice_fits oo (by rw [g0];simpa using hb));rw [h1,h2];simp
def ziR {t:TypeId} {by_:Nat} {u:vL} {x:α} {K:vL->wD->Prop} (ht:P.underlying t=some (.slice e)) (he:tyI P e=some (Rep.size α,by_,Rep.agg α)) (hz:zbU P e=true) (hsz:Rep.size α<=1000)
   {F:List Nat} (hx:Mine F w u x)
   (k:∀ w',Ext w w'->Mine (w.heap.size :: F) w' (.slice (some ⟨w.heap.size,0,none⟩) 1 1) [x]->K (.slice (some ⟨w.heap.size,0,none⟩) 1 1) w'):OP P (Instr.buildSlice t 1 #[(0,u)]) w K:=by
 obtain ⟨⟨cs,hr,rfl⟩,hn,hw⟩:=hx;have g2:=ze8 hr;have g0:=Rep.len hr;have g3:(mkv α cs).cells.size=Rep.size α:=by rw [<-qaK,g2,g0]
 obtain ⟨_,_,hi,_,_,_,_⟩:=zdd he;unfold zbU at hz;rw [hi] at hz;obtain ⟨_,hz⟩:=qbx.1 hz;have:=Rep.pos (α:=α);refine ⟨_,w.alloc (.cells (mkv α cs).cells e),?_,k _ (zaU w _) ?_⟩
 . have g4:¬Rep.size α=0:=oo;have g5:¬2^24<Rep.size α:=oo;simp only [Instr.buildSlice,Sem.run_bind,run_underlying ht,Result.andThen_ok,za6 he,qbY];simp [g5,g4,zeroValue,typeInfo,hi,hz,zsV _ _ _ g3,newRow]
 have hx:=zaU w (.cells (mkv α cs).cells e);have hB:(w.alloc (.cells (mkv α cs).cells e)).heap[w.heap.size]?=some (.cells (mkv α cs).cells e (0,0)):=heap_alloc_new w _;have g1:=Rep.lt hr;refine ⟨⟨_,⟨_,1,F,cs,rfl,lr _,by rw [zak];omega,Cells.single (zb7 hr hx),.inr ⟨w.heap.size,0,rfl,rfl,?_,?_⟩⟩,rfl⟩,?_,?_⟩
 . intro _ _ hy;simp only [World.cell?,hB];rw [<-g2] at hy;simpa using hy
 . exact (Array.getElem?_eq_some_iff.1 hB).1
 . exact qaR.2 ⟨λh=>by have:=g1 _ h;omega,hn⟩
 intro c hc;rcases qaa.1 hc with rfl | hc
 . exact ⟨_,_,hB⟩
 exact hw.ext hx c hc
def znk {t:TypeId} {by_:Nat} {u:vL} {x:α} {K:vL->wD->Prop} (ht:P.underlying t=some (.slice e)) (he:tyI P e=some (Rep.size α,by_,Rep.agg α)) (hz:zbU P e=true) (g1:Rep.size α<=1000)
   (hx:OwnI lo hi w u x) (g3:lo<=w.heap.size)
   (k:∀ v w',Ext w w'->OwnI lo w'.heap.size w' v [x]->K v w'):OP P (Instr.buildSlice t 1 #[(0,u)]) w K:=by
 obtain ⟨_,hm,hF⟩:=hx;refine ziR ht he hz g1 hm λw' g2 g0=>k _ w' g2 ⟨_,g0,λb hb=>⟨?_,g0.lt b hb⟩⟩;rcases qaa.1 hb with rfl | hb
 . exact g3
 exact (hF b hb).1
def zaI {t:TypeId} {by_:Nat} {K:vL->wD->Prop} (ht:P.underlying t=some (.slice e)) (he:tyI P e=some (Rep.size α,by_,Rep.agg α))
   (k:∀ a w',Ext w w'->RowI (α:=α) w'.heap.size w'.heap.size e w' (.slice (some a) 0 0) []->K (.slice (some a) 0 0) w'):OP P (Instr.buildSlice t 0 #[]) w K:=
 ziI (α:=α) ht he λa w' hx hr=>k _ w' hx (zcg _ _ _ _ _)
def zos {t ty:TypeId} {by_:Nat} {u:vL} {x:α} {lo2 hi2:Nat} {K C:vL->wD->Prop} (ht:P.underlying t=some (.slice e)) (he:tyI P e=some (Rep.size α,by_,Rep.agg α)) (hz:zbU P e=true)
   (gd:(P.info? e).map (λi=>(i.zero.map (·.cells.size)))=some (some (Rep.size α))) (gg:Rep.size α<=1000) (hv:RowI lo hi e w v l) (hlo:lo<=w.heap.size) (hx:OwnI lo2 hi2 w u x) (hl:hi<=lo2) (hl2:lo<=lo2) (hm:l.length+1<=maxLen) (hb:(l.length+1)*by_<=140737488355328)
   (k:∀ v' w',ChgI lo hi w w'->RowI lo w'.heap.size e w' v' (l++[x])->K v' w')
   (hC:∀ s w1,Ext w w1->OP P (Builtin.append_ #[t,t] ty [v,s].toArray) w1 K->C s w1):OP P (Instr.buildSlice t 1 #[(0,u)]) w C:=by
 obtain ⟨G,g5,hG⟩:=hx;refine ziR ht he hz gg g5 λw1 g1 gh=>?_;obtain ⟨⟨_,⟨_,_,Fi,xs,rfl,_,_,hc,h4⟩,g0⟩,_,gi⟩:=gh;simp only [mkv,Rep.agg,cond_false,qbO,Value.slice.injEq,qam,qaI] at g0;obtain ⟨rfl,_,rfl⟩:=g0;rcases h4 with ⟨h4,_⟩ | ⟨b,o,g3,g9,gb,_⟩
 . simp at h4
 simp only [qa8] at g9;obtain ⟨_,rfl⟩:=g9
 have gc:∀ (v:vL) (F:List Nat),RowF F e w v l->F.Nodup->(∀ b∈F,lo<=b/\b<hi)->OP P (Builtin.append_ #[t,t] ty [v,.slice (some ⟨w.heap.size,0,none⟩) 1 1].toArray) w1 K:=by
   intro v F hF g2 D;have gj:=hF.ext g1
   have hd:(G++F).Nodup:=by
     rw [qav];refine ⟨g5.nodup,g2,λp hp _ hq e=>?_⟩;subst e;have:=hG p hp;have:=D p hq;omega
   refine ziJ (m:=[x]) ht he gd gj g2 rfl hc (.inr ⟨b,o,g3,gb⟩) (gi.sub sd) hd (by simpa using hm) (by simpa using hb) λv' w' F' gl _ gf gn gp=>?_
   have g4:∀ c∈v.ownBlock.toList,lo<=c/\c<hi:=λc hc=>by
     obtain ⟨xs,Fi,_,_,rfl,_⟩:=hF;exact D c (by simp only [qae];exact .inl hc)
   refine k v' w' ((Ext.toI g1).trans (gl.toI g4)) (.inr ⟨F',gf,gn,λc hc=>⟨?_,gf.lt c hc⟩⟩);rcases gp c hc with h | h | h
   . exact (D c h).1
   . have:=hG c h;omega
   have:=g1.size;omega
 refine hC _ w1 g1 ?_;rcases hv with ⟨a0,rfl,rfl⟩ | ⟨F,hF,g2,D⟩
 . have kn:=gc (.slice none 0 0) [] (zlu e w) qas ss;cases a0 with
   | none=>exact kn
   | some x0=>
     simp only [qaq,Addr.mk.injEq] at g3;obtain ⟨rfl,rfl,_⟩:=g3;exact zor (zik (α:=α) (n:=1) ht he gd (by simpa using Cells.len hc) gb oo (by rw [zak];omega) (by simpa using hb)) kn
 exact gc v F hF g2 D
def zbs {t ty:TypeId} {by_:Nat} {u:vL} {x:α} {lo2 hi2:Nat} {K:vL->wD->Prop} (ht:P.underlying t=some (.slice e)) (he:tyI P e=some (Rep.size α,by_,Rep.agg α)) (hz:zbU P e=true)
   (hzc:(P.info? e).map (λi=>(i.zero.map (·.cells.size)))=some (some (Rep.size α))) (hsz:Rep.size α<=1000) (hv:RowI lo hi e w v l) (hlo:lo<=w.heap.size) (hx:OwnI lo2 hi2 w u x) (hl:hi<=lo2) (hl2:lo<=lo2) (hm:l.length+1<=maxLen) (hb:(l.length+1)*by_<=140737488355328)
   (k:∀ v' w',ChgI lo hi w w'->RowI lo w'.heap.size e w' v' (l++[x])->K v' w'):OP P (Instr.buildSlice t 1 #[(0,u)]) w λs w1=>OP P (Builtin.append_ #[t,t] ty [v,s].toArray) w1 K:=
 zos ht he hz hzc hsz hv hlo hx hl hl2 hm hb k λ_ _ _ h=>h
def zyY {t ty:TypeId} {by_:Nat} {u:vL} {x:α} {lo2 hi2:Nat} {K:vL->wD->Prop} (ht:P.underlying t=some (.slice e)) (he:tyI P e=some (Rep.size α,by_,Rep.agg α)) (hz:zbU P e=true)
   (hzc:(P.info? e).map (λi=>(i.zero.map (·.cells.size)))=some (some (Rep.size α))) (hsz:Rep.size α<=1000) (hv:RowI lo hi e w v l) (hlo:lo<=w.heap.size) (hx:OwnI lo2 hi2 w u x) (hl:hi<=lo2) (hl2:lo<=lo2) (hm:l.length+1<=maxLen) (hb:(l.length+1)*by_<=140737488355328)
   (k:∀ v' w',ChgI lo hi w w'->RowI lo w'.heap.size e w' v' (l++[x])->K v' w'):OP P (Instr.buildSlice t 1 #[(0,u)]) w λs w1=>Ext w w1/\OP P (Builtin.append_ #[t,t] ty [v,s].toArray) w1 K:=
 zos ht he hz hzc hsz hv hlo hx hl hl2 hm hb k λ_ _ hx h=>⟨hx,h⟩
def zek [Flat α] {t ty:TypeId} {by_:Nat} {g9:vL} {m:List α} {K:vL->wD->Prop} (ht:P.underlying t=some (.slice e)) (he:tyI P e=some (Rep.size α,by_,Rep.agg α))
   (g4:(P.info? e).map (λi=>(i.zero.map (·.cells.size)))=some (some (Rep.size α))) (hv:RowI lo hi e w v l) (hlo:lo<=w.heap.size) (hs:Is w0 g9 m) (hx:Ext w0 w) (hm:l.length+m.length<=maxLen) (hb:(l.length+m.length)*by_<=140737488355328)
   (k:∀ v' w',ChgI lo hi w w'->RowI lo w'.heap.size e w' v' (l++m)->K v' w'):OP P (Builtin.append_ #[t,t] ty [v,g9].toArray) w K:=by
 obtain ⟨a,cap,Fi,xs,rfl,_,_,hc,h4⟩:=zdU (hs.ext hx);have gb:=Cells.flat (xs:=xs) hc;subst gb
 have g3:∀ (v:vL) (F:List Nat),RowF F e w v l->F.Nodup->(∀ b∈F,lo<=b/\b<hi)->OP P (Builtin.append_ #[t,t] ty [v,.slice a m.length cap].toArray) w K:=by
   intro v F hF g0 g1;refine ziJ (m:=m) ht he g4 hF g0 rfl hc (by rcases h4 with h | ⟨b,o,ha,hr,_⟩;exact .inl h;exact .inr ⟨b,o,ha,hr⟩) (Wr.nil _) (by simpa using g0) hm hb λv' w' F' gc _ g5 gd gf=>?_
   have g2:∀ c∈v.ownBlock.toList,lo<=c/\c<hi:=λc hc=>by
     obtain ⟨xs,Fi,_,_,rfl,_⟩:=hF;exact g1 c (by simp only [qae];exact .inl hc)
   refine k v' w' (gc.toI g2) (.inr ⟨F',g5,gd,λc hc=>⟨?_,g5.lt c hc⟩⟩);rcases gf c hc with h | h | h
   . exact (g1 c h).1
   . simp at h
   omega
 rcases hv with ⟨a0,rfl,rfl⟩ | ⟨F,hF,g0,g1⟩
 . have kn:=g3 (.slice none 0 0) [] (zlu e w) qas ss;cases a0 with
   | none=>exact kn
   | some x0=>
     by_cases hm0:m=[]
     . subst hm0;refine ⟨.slice (some x0) 0 0,w,?_,k _ w (ChgI.refl w) (zcg _ _ _ _ _)⟩
       have hf:(Builtin.firstCells (Rep.size α) 0 (.slice a 0 cap)).run P w=.ok #[] w:=by
         cases a with
         | none=>rfl
         | some a=>simp [Builtin.firstCells,loadCells,loadCellsFrom]
       simp [Builtin.append_,run_underlying ht,za6 he,Builtin.lenOf,hf,storeCells]
     rcases h4 with h | ⟨b,o,rfl,hr,_⟩
     . exact absurd h hm0
     exact zor (zik (α:=α) ht he g4 (Cells.len hc) hr (qbP.2 hm0) (by simpa using hm) (by simpa using hb)) kn
 exact g3 v F hF g0 g1
def zwl {a:Option Addr} {cap:Nat} {l:List α} (h:Is w (.slice a l.length cap) l) (k:Nat) (hk:k<=l.length):Is w (.slice a k cap) (l.take k):=by
 obtain ⟨_,_,⟨_,_,_,_,rfl,_,h2,hc,h4⟩,hv⟩:=h;simp only [mkv,Rep.agg,cond_false,qbO,Value.slice.injEq] at hv;obtain ⟨rfl,_,rfl⟩:=hv;have e:l=l.take k++l.drop k:=by simp
 have C:(l.take k).length=k:=by simp;omega
 rw [e] at hc;obtain ⟨F1,_,x1,_,rfl,rfl,c1,_⟩:=Cells.split hc;by_cases hd:l.take k=[]
 . refine ⟨[],_,⟨a,cap,F1,x1,rfl,by rw [C];omega,h2,c1,.inl ⟨hd,rfl⟩⟩,?_⟩;rw [C];rfl
 rcases h4 with ⟨rfl,_⟩ | ⟨b,o,rfl,rfl,hr,hb⟩
 . simp at hd
 refine ⟨_,_,⟨some ⟨b,o,none⟩,cap,F1,x1,rfl,by rw [C];omega,h2,c1,.inr ⟨b,o,rfl,rfl,(zaP hr).1,hb⟩⟩,?_⟩;rw [C];rfl
def zlv {t:TypeId} {by_:Nat} {v:vL} {l:List α} {i:Int} {K:vL->Prop} (ht:P.underlying t=some (.slice e)) (he:tyI P e=some (Rep.size α,by_,Rep.agg α)) (h:Is w0 v l) (h0:0<=i) (h1:i.toNat<=l.length)
   (k:∀ v',Is w0 v' (l.take i.toNat)->K v'):RD P (Instr.sliceAt t v none (some (.int .i64 i)) none) w K:=by
 obtain ⟨a,cap,_,_,rfl,_,_,_,_⟩:=zdU h
 have hb:∀ w',(Instr.sliceBounds true l.length cap none (some (.int .i64 i)) none).run P w'=.ok (0,i.toNat,cap) w':=λw'=>by
   have:i<=(cap:Int):=oo;simp [Instr.sliceBounds,Instr.sliceBound,asIntOf,h0,this]
 refine za9 (v:=.slice a i.toNat cap) (λw' _=>?_) (k _ (zwl h i.toNat h1))
 have hz:(if cap=0 then a else a.map (λx=>x.add (0*Rep.size α)))=a:=by
   split
   . rfl
   cases a<;>simp [Addr.add_mid,Addr.add]
 simp only [Instr.sliceAt,Instr.slice,Sem.run_bind,run_underlying ht,Result.andThen_ok,hb,za6 he];simp;exact λ_=>by cases a<;>simp [Addr.add_mid,Addr.add]
def zot {t:TypeId} {by_:Nat} {v:vL} {l:List α} {i j:Int} {K:vL->Prop} (ht:P.underlying t=some (.slice e)) (he:tyI P e=some (Rep.size α,by_,Rep.agg α)) (h:Is w0 v l) (h0:0<=i) (h1:i<=j) (h2:j.toNat<=l.length)
   (k:∀ v',Is w0 v' ((l.take j.toNat).drop i.toNat)->K v'):RD P (Instr.sliceAt t v (some (.int .i64 i)) (some (.int .i64 j)) none) w K:=by
 obtain ⟨a,cap,_,_,rfl,_,_,_,_⟩:=zdU h
 have hb:∀ w',(Instr.sliceBounds true l.length cap (some (.int .i64 i)) (some (.int .i64 j)) none).run P w'=.ok (i.toNat,j.toNat,cap) w':=λw'=>by
   have h3:j<=(cap:Int):=oo;have h5:0<=j:=oo;simp [Instr.sliceBounds,Instr.sliceBound,asIntOf,h0,h1,h3,h5];intro _;omega
 have hl:(l.take j.toNat).length=j.toNat:=by rw [qao];omega
 have g0:Is w0 (.slice a (l.take j.toNat).length cap) (l.take j.toNat):=by rw [hl];exact zwl h j.toNat h2
 have hd:=zvx g0 i.toNat oo (Rep.size α) rfl;rw [hl] at hd;refine za9 (λw' _=>?_) (k _ hd);simp only [Instr.sliceAt,Instr.slice,Sem.run_bind,run_underlying ht,Result.andThen_ok,hb,za6 he];simp
def AtB {α:Type} [Rep α] (W w:wD) (b o:Nat) (x:α):Prop:=∃ F cs,rep F W cs x/\w.rangeAt b o cs
def AtB.keep {W w':wD} {b o:Nat} {x:α} (h:AtB W w b o x) (hb:w'.heap[b]?=w.heap[b]?):AtB W w' b o x:=by
 obtain ⟨F,cs,hr,ha⟩:=h;exact ⟨F,cs,hr,zbx ha hb⟩
def AtB.ext {W:wD} {b o:Nat} {x:α} (h:AtB W w b o x) (hx:Ext w w'):AtB W w' b o x:=by
 obtain ⟨F,cs,hr,ha⟩:=h;exact ⟨F,cs,hr,zbw ha hx⟩
def AtB.at {W:wD} {b o:Nat} {x:α} (h:AtB W w b o x) (hx:Ext W w):At w b o x:=by
 obtain ⟨F,cs,hr,ha⟩:=h;exact ⟨F,cs,zb7 hr hx,ha⟩
def AtB.fst {β:Type} [Rep β] {W:wD} {b o:Nat} {p:α×β} (h:AtB W w b o p):AtB W w b o p.1:=by
 obtain ⟨_,_,⟨F1,_,c1,_,rfl,rfl,h1,_⟩,hr⟩:=h;exact ⟨F1,c1,h1,(zaP hr).1⟩
def AtB.snd {β:Type} [Rep β] {W:wD} {b o:Nat} {p:α×β} (h:AtB W w b o p):AtB W w b (o+Rep.size α) p.2:=by
 obtain ⟨_,_,⟨_,F2,_,c2,rfl,rfl,h1,h2⟩,hr⟩:=h;have:=(zaP hr).2;rw [Rep.len h1] at this;exact ⟨F2,c2,h2,this⟩
def zbd {W:wD} {t by_ b o:Nat} {x:α} {K:vL->Prop} (ht:tyI P t=some (Rep.size α,by_,Rep.agg α)) (h:AtB W w0 b o x) (hW:Ext W w0) (hx:Ext w0 w) (k:∀ v,Is W v x->K v) :
   RD P (Instr.loadAt t (.pointer (some ⟨b,o,none⟩))) w K:=by
 obtain ⟨F,cs,hr,hc⟩:=h;exact za9 (λ_ g0=>zeb ht (zb7 hr (hW.trans (hx.t g0))) (zbw hc (hx.t g0))) (k _ ⟨F,cs,hr,rfl⟩)
def zcV {W w1:wD} {g:Nat} {x:α} {t:TypeId} (h:Is W v x) (hV:Var P t w1 g v) (ha:Rep.agg α=true):AtB W w1 g 0 x:=by
 obtain ⟨F,cs,hr,rfl⟩:=h;obtain ⟨_,g0,_,hB,hv,_⟩:=hV
 have:g0=cs:=by
   simp only [mkv,ha,cond_true,Value.agg.injEq] at hv;have:=qat Array.toList hv;simpa using this.symm
 subst this;exact ⟨F,_,hr,hB.range⟩
theorem zwm [RepZ α] {t:TypeId} {fs:Array Field} {K:vL->Prop} (hu:P.underlying t=some (.struct fs)) (hz:zcq P t=some (RepZ.zc α)) (hf:(fs.toList.all λf=>(P.info? f.type).isSome)=true) (ha:Rep.agg α=true)
   (k:∀ v,Is w v (RepZ.zv:α)->K v):RD P (Instr.build t #[]) w K:=by
 unfold zcq at hz;cases hi:P.info? t with
 | none=>simp [hi] at hz
 | some i=>
   simp only [hi] at hz;obtain ⟨z,g0,g1⟩:=qaS.1 hz
   have hm:∀ w',∃ ps,(fs.mapM λf=>do pure (f.offset,<-sizeOf f.type):Sem (Array (Nat×Nat))).run P w'=.ok ps w':=by
     intro w'
     have:∀ l:List Field,(l.all λf=>(P.info? f.type).isSome)=true->∃ ps,(l.mapM λf=>do pure (f.offset,<-sizeOf f.type):Sem (List (Nat×Nat))).run P w'=.ok ps w':=by
       intro l
       induction l with
       | nil=>intro _;exact ⟨[],ss⟩
       | cons f l ih=>
         intro h;simp only [List.all_cons,qap] at h;obtain ⟨j,hj⟩:=qbx.1 h.1;obtain ⟨ps,C⟩:=ih h.2;have g2:(sizeOf f.type).run P w'=.ok j.size w':=by simp [sizeOf,typeInfo,hj]
         exact ⟨(f.offset,j.size) :: ps,by simp only [qc9,Sem.run_bind,g2,Result.andThen_ok,Sem.run_pure,C]⟩
     obtain ⟨ps,C⟩:=this fs.toList hf;exact ⟨ps.toArray,by rw [qcK];simp only [map_eq_pure_bind,Sem.run_bind,C,Result.andThen_ok,Sem.run_pure]⟩
   refine za9 (v:=mkv α (RepZ.zc α)) (λw' _=>?_) (k _ ⟨[],_,RepZ.zr w,rfl⟩);obtain ⟨ps,C⟩:=hm w';have e:z.cells=(RepZ.zc α).toArray:=by rw [<-g1]
   have g3:(zeroValue t).run P w'=.ok z w':=by simp [zeroValue,typeInfo,hi,g0]
   simp only [Instr.build,Sem.run_bind,g3,Result.andThen_ok,run_underlying hu,C];simp [Instr.fill,mkv,ha,e]
end
end Go.Sh
namespace Go.Sh
open Go.RowKit (Below)
open Rep (rep)
section
variable {P:pG} {w w0 w':wD} {α β γ:Type} [Rep α] [Rep β]
def zfz {t e:TypeId} {by_:Nat} {F:List Nat} {v:vL} {l:List α} {k:Nat} {K:vL->Prop} (ht:P.underlying t=some (.slice e)) (he:tyI P e=some (Rep.size α,by_,Rep.agg α)) (hm:Mine F w v l) (hk:k<l.length)
   (kk:∀ b o G,Lens (MH v) F w b o G l[k] (λy=>l.set k y)->K (.pointer (some ⟨b,o,none⟩))):RD P (Instr.indexAt t v (.int .i64 (k:Int))) w K:=by
 obtain ⟨b,a,_,G,hv,hL⟩:=zDy hm hk;refine za9 (v:=.pointer (some ⟨b,a+k*Rep.size α,none⟩)) (λ_ _=>?_) (kk _ _ _ hL);rw [hv,zdL ht he oo oo];simp
def zlw {ft by_ b o:Nat} {H:List Nat->wD->γ->Prop} {F G:List Nat} {l:List β} {upd:List β->γ} {K:vL->Prop} (g1:tyI P ft=some (1,by_,false)) (hL:Lens H F w b o G l upd)
   (k:∀ u,Mine G w u l->(∀ c∈G,c∈F)->(∀ w' G' l',Chg G w w'->Mine G' w' u l'->(∀ c∈G',c∈G\/c∉F)->∃ F',H F' w' (upd l')/\∀ c∈F',c∈F\/c∈G')->K u) :
   RD P (Instr.loadAt ft (.pointer (some ⟨b,o,none⟩))) w K:=by
 obtain ⟨u,hM,hr,hG,hb⟩:=hL.row;refine za9 (λw' g0=>?_) (k u hM hG hb);have h0:w'.cell? ⟨b,o,none⟩=some u:=by simpa using (zbw hr g0) 0 u rfl
 have hA:=zcd g1 w';simp [Instr.loadAt,Instr.sureAddr,loadVar,hA,h0]
def zaj {ft by_ g e o:Nat} {cs:List vL} {v:vL} {K:vL->Prop} (g1:tyI P ft=some (1,by_,false)) (hB:Blk g e w cs) (ho:cs[o]?=some v) (k:K v) :
   RD P (Instr.loadAt ft (.pointer (some ⟨g,o,none⟩))) w K:=by
 refine za9 (λw' g0=>?_) k;have h0:w'.cell? ⟨g,o,none⟩=some v:=by simpa using (zbw hB.range g0) o v ho
 have hA:=zcd g1 w';simp [Instr.loadAt,Instr.sureAddr,loadVar,hA,h0]
def zrz {t:TypeId} {cs:Array vL} {K:vL->wD->Prop} (k:∀ w',Ext w w'->Blk w.heap.size t w' cs.toList->K (.pointer (some ⟨w.heap.size,0,none⟩)) w'):OP P (Instr.box t (.agg cs)) w K:=
 ⟨_,w.alloc (.cells cs t),by simp [Instr.box,newVar,newRow,Value.cells],k _ (zaU w _) (by unfold Blk;rw [heap_alloc_new w _])⟩
def zfc {t by_ b o:Nat} {F G:List Nat} {v:vL} {y y':β} {upd:β->α} {u:vL} {K:wD->Prop} (ht:tyI P t=some (Rep.size β,by_,Rep.agg β)) (h:Lens (MH v) F w b o G y upd)
   (hu:Mine [] w u y') (k:∀ w' F',Chg F w w'->Mine F' w' v (upd y')->(∀ c∈F',c∈F)->K w'):OPU P (Instr.storeAt t (.pointer (some ⟨b,o,none⟩)) u) w K:=
 zkE ht h hu ss λw' hc ⟨F',h1,h2⟩=>k w' F' hc h1 λc hc=>by
   rcases h2 c hc with h | h
   . exact h
   simp at h
def zcF {x:Int} (h:I64 x):Mine [] w (.int .i64 x) x:=⟨⟨_,⟨rfl,rfl,h⟩,rfl⟩,qas,Wr.nil w⟩
def zsW {x:ByteArray} (h:x.size<=maxLen):Mine [] w (.string x) x:=⟨⟨_,⟨rfl,rfl,h⟩,rfl⟩,qas,Wr.nil w⟩
def zlx {x:Bool}:Mine [] w (.bool x) x:=⟨⟨_,⟨rfl,rfl⟩,rfl⟩,qas,Wr.nil w⟩
def Chg.sub {F G:List Nat} {a b c:wD} (h:Chg F a b) (k:Chg G b c) (hs:∀ x∈G,x∈F):Chg F a c:=h.trans (k.mono hs)
def zDD {ts:Array TypeId} {ty:TypeId} {a b:Int} {K:vL->Prop} (k:K (.int .i64 (max a b))):RD P (Builtin.max_ ts ty [Value.int .i64 a,Value.int .i64 b].toArray) w K:=by
 refine za9 (λ_ _=>?_) k;have:(if b>a then b else a)=max a b:=by split<;>omega
 simp only [Builtin.max_,List.toList_toArray,List.foldlM_cons,List.foldlM_nil,Builtin.max2,this];rfl
def zDE {ts:Array TypeId} {ty:TypeId} {a b:Int} {K:vL->Prop} (k:K (.int .i64 (min a b))):RD P (Builtin.min_ ts ty [Value.int .i64 a,Value.int .i64 b].toArray) w K:=by
 refine za9 (λ_ _=>?_) k;have:(if b<a then b else a)=min a b:=by split<;>omega
 simp only [Builtin.min_,List.toList_toArray,List.foldlM_cons,List.foldlM_nil,Builtin.min2,this];rfl
def zDF {t e ft i off by_ g2:Nat} {F:List Nat} {v u:vL} {l:List α} {k:Nat} {y':β} {sel:α->β} {g:α->β->α} {K:wD->Prop} (ht:P.underlying t=some (.slice e)) (he:tyI P e=some (Rep.size α,by_,Rep.agg α)) (hf:zdv P e i=some off) (g1:tyI P ft=some (Rep.size β,g2,Rep.agg β))
   (L:∀ {a:α} {G:List Nat} {b o:Nat} {upd:α->List α},Lens (MH v) F w b o G a upd->∃ G1,Lens (MH v) F w b (o+off) G1 (sel a) (λy=>upd (g a y))) (hm:Mine F w v l) (hk:k<l.length) (hu:Mine [] w u y')
   (kk:∀ w' F',Chg F w w'->Mine F' w' v (l.set k (g l[k] y'))->(∀ c∈F',c∈F)->K w') :
   RD P (Instr.indexAt t v (.int .i64 (k:Int))) w λp=>RD P (Instr.fieldAt e p i) w λq=>OPU P (Instr.storeAt ft q u) w K:=by
 refine zfz ht he hm hk λb o G hL=>zaa hf ?_;obtain ⟨G1,g0⟩:=L hL;exact zfc (upd:=λy=>l.set k (g l[k] y)) g1 g0 hu kk
end
end Go.Sh
namespace Go.Sh
open Rep (rep)
instance:Rep UInt8 where
 size:=1
 agg:=false
 rep F _ cs x:=F=[]/\cs=[.int .u8 (x.toNat:Int)]
 pos:=by decide
 sz _:=rfl
 len:=by rintro _ _ _ _ ⟨_,rfl⟩;rfl
 one:=by rintro _ _ _ _ ⟨_,rfl⟩ v hv;simp at hv;subst hv;rfl
 keep:=by rintro _ _ _ _ _ h _;exact h
 lt:=by rintro _ _ _ _ ⟨rfl,_⟩ b hb;cases hb
instance:Flat UInt8:=⟨λh=>h.1⟩
instance:RepZ UInt8:=⟨0,[.int .u8 0],λ_=>⟨rfl,rfl⟩⟩
section
variable {P:pG} {w w0:wD} {K:vL->Prop} {t:TypeId} {x y:Operand}
def zBV {b:UInt8}:Mine [] w (.int .u8 (b.toNat:Int)) b:=⟨⟨_,⟨rfl,rfl⟩,rfl⟩,qas,Wr.nil w⟩
def zBW {lo hi:Nat} {b:UInt8}:OwnI lo hi w (.int .u8 (b.toNat:Int)) b:=⟨[],zBV,ss⟩
def zBX {g0 dst:TypeId} {n:Nat} (hs:(P.underlying g0).isSome=true) (hd:P.underlying dst=some (.int .u8)) (hn:n<256) (k:K (.int .u8 ((UInt8.ofNat n).toNat:Int))):RD P (convert g0 dst (.int .i64 (n:Int))) w K:=by
 refine za9 (λ_ _=>?_) k;obtain ⟨_,g1⟩:=Option.isSome_iff_exists.mp hs;have h1:IntKind.u8.wrap (n:Int)=n:=by simp [IntKind.wrap,IntKind.signed,IntKind.bits];omega
 have:(UInt8.ofNat n).toNat=n:=by simp;omega
 simp [convert,run_underlying g1,run_underlying hd,Conv.intToInt,h1];omega
def zly {C dst e:TypeId} {v:vL} {l:List UInt8} (hs:P.underlying C=some (.slice e)) (he:P.underlying e=some (.int .u8)) (hd:P.underlying dst=some .string) (h:Is w0 v l) (hx:Ext w0 w)
   (k:K (.string ⟨l.toArray⟩)):RD P (convert C dst v) w K:=by
 obtain ⟨a,cap,_,xs,rfl,_,_,hc,h4⟩:=zdU h
 have g0:∀ {l:List UInt8} {F:List Nat} {xs:List vL},Cells F w0 xs l->xs=l.map λb=>Value.int .u8 (b.toNat:Int):=by
   intro l
   induction l with
   | nil=>rintro _ _ ⟨_,rfl⟩;rfl
   | cons b l ih=>
     rintro _ _ ⟨_,_,_,_,_,rfl,⟨_,rfl⟩,h⟩;rw [ih h];rfl
 have g1:=g0 hc;refine za9 (λw' g2=>?_) k;rcases h4 with rfl | ⟨b,o,rfl,hr,_⟩
 . cases a with
   | none=>exact run_convert_bytes_nil w' C e hs he _ _ dst hd
   | some a=>
     rw [run_convert_bytes_string w' C dst e _ _ cap hs he hd];have:=run_bytesToString (P:=P) w' a 0 cap [] (by simp [loadCells,loadCellsFrom]);exact this
 have:=run_convert_bytes_arg w' C e hs he b o l.length cap (l.map λb=>(b.toNat:Int)) ss (λi hi=>by
   have g3:=zbw (zbw hr hx) g2;have:=g3 i (.int .u8 (l[i].toNat:Int)) (by rw [g1];simp [hi]);rw [this];simp [List.getD,hi]) dst hd
 rw [this]
 have e:strOfNums (l.map λb=>(b.toNat:Int))=⟨l.toArray⟩:=by
   unfold strOfNums;congr 2;rw [List.map_map]
   conv=>rhs;rw [<-List.map_id l]
   congr 1;funext b;simp
 rw [e]
def zbt {a b:ByteArray} (h:a.size+b.size<=9223372036854775807) (k:K (.string (a++b))):RD P (bin .add t x y (.string a) (.string b)) w K:=
 za9 (λw' _=>by
   have hh:¬(((a.size+b.size:Nat):Int)>IntKind.i64.max):=by
     have:IntKind.i64.max=9223372036854775807:=by decide
     omega
   show (do eqGuard .add t x y (.string a) (.string b);binOp .add t (.string a) (.string b):Sem vL).run P w'=_;simp only [eqGuard,binOp,Op.stringOp,hh,if_false];rfl) k
def zDG {a b:Int} (hb:b≠0) (h:I64 (a.tdiv b)) (k:K (.int .i64 (a.tdiv b))):RD P (bin .quo t x y (.int .i64 a) (.int .i64 b)) w K:=
 za9 (λw' _=>by simp [bin,eqGuard,binOp,Op.intDiv,hb,IntWalk.i64_in _ h]) k
end
end Go.Sh
namespace Go.Proofs.YtkgiigmcbgifdaaGreatDoor
open Go Go.Sh Go.Proofs
open Rep (rep)
variable {K:vL->Prop} {P:pG} {W0 w:wD} {a:Int} {d e i j m:Nat} {s:ByteArray}
def PowT (w:wD):Prop:=Lib.TabIs tp w "internal/strconv.uint64pow10" .u64 Lib.pow10Tab
def PowT.ext {w w':wD} (h:PowT w) (hx:Ext w w'):PowT w':=by
 unfold PowT Lib.TabIs World.var? at *
 obtain ⟨g,hg⟩:∃ g,tp.globalNamed "internal/strconv.uint64pow10" = some g:=by
   cases e:tp.globalNamed "internal/strconv.uint64pow10" with
   | none=>simp [e] at h
   | some g=>exact ⟨g,rfl⟩
 simp only [hg,qcA] at h ⊢;rcases qaw g w.heap.size with hl | hl
 · rw [hx.block g hl];exact h
 rw [Array.getElem?_eq_none hl] at h;simp at h
def znl (n:Int):ByteArray:=⟨(Lib.itoa n).toArray⟩
def zwn (w:wD) (k:Nat) (os:Array Obj):Ext w (Go.Sort.grow (w.drewN k) os):=
 ⟨rfl,rfl,rfl,by simp [Go.Sort.grow,World.drewN],λi hi=>by
   rw [Go.Sort.heap_grow_old _ _ (by simpa [World.drewN] using hi)];rfl⟩
def zBY {n:Int} (hT:PowT w) (hn:I64 n) :
   CALL tp 59 [.int .i64 n] w λr w'=>Ext w w'/\r=.string (znl n):=by
 refine ⟨(Any.strconv_Itoa Tryz.laysM171 n hn.1 hn.2 w hT).mono ?_⟩;rintro _ w' ⟨he,k,os,rfl⟩;exact ⟨_,he,zwn w k os,rfl⟩
def zc6 {n:Int} (hT:PowT W0) (e0:Ext W0 w) (hn:I64 n) :
   CALL tp 22 [.int .i64 n] w λr w'=>Ext w w'/\r=.string (znl n):=by
 refine co (g:=kf [] [] []) Tryz.func22 ?_;refine (zBY (hT.ext e0) hn).mono ?_;rintro _ _ ⟨g0,rfl⟩;exact ⟨g0,rfl⟩
def zhf {u:Nat} (h:u<10):Lib.decDigits u=[UInt8.ofNat (48+u)]:=Lib.decDigits_one h
def zsX {u:Nat} (h:¬u<10):Lib.decDigits u=Lib.decDigits (u / 10)++[UInt8.ofNat (48+u%10)]:=by
 rw [Lib.decDigits,dif_neg h]
def zwo (hd:d<10) :
   CALL tp 52 [.int .i64 (d:Int)] w λr w'=>Ext w w'/\r=.int .u8 ((UInt8.ofNat (48+d)).toNat:Int):=by
 refine co (g:=kf [] [] []) Tryz.func52 ?_;refine zah<|br (λ_=>?_) (λ_=>oo);refine zdK io ?_;rw [show (48:Int)+(d:Int)=((48+d:Nat):Int) by omega];refine zBX kK u5 oo<|⟨xrf _,rfl⟩
def zDH (h:I64 (-a)) (k:K (.int .i64 (-a))):RD P (Op.unary .neg (.int .i64 a)) w K:=
 za9 (λ_ _=>by
   have h':I64 (0-a):=by rw [Int.zero_sub];exact h
   simp [Op.unary,Op.intArith,IntWalk.i64_in _ h',IntWalk.i64_in _ h]) k
theorem zwp:∀ k u:Nat,u<10^(k+1)->(Lib.decDigits u).length<=k+1
 | 0,u,hu=>by rw [zhf oo];simp
 | k+1,u,hu=>by
   by_cases h:u<10
   . rw [zhf h];simp
   rw [zsX h,qab];have:=zwp k (u / 10) (by rw [Nat.div_lt_iff_lt_mul oo];rw [qc2] at hu;exact hu);simp only [qaC];omega
def zwq {u:Nat} (hu:u<=9223372036854775808):(Lib.decDigits u).length<=20:=zwp 19 u oo
def zer (n:Int) (hn:I64 n):(znl n).size<=21:=by
 unfold I64 at hn;show (Lib.itoa n).toArray.size<=21;rw [qcP];unfold Lib.itoa;split
 . have:=zwq (u:=n.natAbs) oo;simp only [qam];omega
 have:=zwq (u:=n.toNat) oo;omega
def zyZ (hm:m≠0) (s:ByteArray):(m / 10≠0->Lib.decDigits m++bts s=Lib.decDigits (m / 10)++bts (⟨[UInt8.ofNat (48+m%10)].toArray⟩++s))/\(m / 10=0->Lib.decDigits m++bts s=bts (⟨[UInt8.ofNat (48+m%10)].toArray⟩++s)):=by
 have e:bts ((⟨[UInt8.ofNat (48+m%10)].toArray⟩:ByteArray)++s)=UInt8.ofNat (48+m%10) :: bts s:=by
   simp [bts,qc3]
 constructor
 . intro h;rw [zsX oo,e];simp
 intro h;rw [zhf oo,e,qbs oo];simp
def zc7 {n:Int} (hn:I64 n) :
   CALL tp 19 [.int .i64 n] w λr w'=>Ext w w'/\r=.string (znl n):=by
 refine co (g:=kf [(9,245792,[5])] [(5,67107889,[0,4])] []) Tryz.func19 ?_;have gg:=hn;unfold I64 at gg;refine zag<|br (λh0=>?_) (λh0=>?_)
 . refine ⟨xrf _,?_⟩;subst h0;unfold znl Lib.itoa;rw [qad oo,show (0:Int).toNat=0 from rfl,zhf oo];rfl
 refine zah ?_;have gh:(Lib.decDigits n.natAbs).length<=20:=zwq oo;refine LOOPI.mk (λm us w'=>∃ (x:Int) (s:ByteArray),us=[.int .i64 x,.string s]/\Ext w w'/\x.natAbs=m/\I64 x/\(m≠0->Lib.decDigits n.natAbs=Lib.decDigits m++bts s)/\(m=0->Lib.decDigits n.natAbs=bts s)) n.natAbs ⟨n,⟨#[]⟩,rfl,xrf _,rfl,hn,λ_=>by simp [bts],λh=>oo⟩ ?_;rintro m _ w1 ⟨x,s,hq,g2,g3,hI,hA,hB⟩;obtain ⟨gi,gj⟩:=zcv hq;rw [gi,gj];refine zaJ<|br (λ_=>?_) (λ_=>?_)
 . have g1:m≠0:=oo;have hd:=hA g1
   have g4:s.size<=20:=by
     have:=qat List.length hd;rw [qab,zaB] at this;omega
   have g0:(x.tmod 10=((m%10:Nat):Int)/\¬x<0)\/(x.tmod 10=-((m%10:Nat):Int)/\x<0):=by
     rcases Int.natAbs_eq x with e | e
     . left;refine ⟨?_,oo⟩;rw [e,g3];rfl
     right;refine ⟨?_,oo⟩;rw [e,g3,Int.neg_tmod];rfl
   have g5:(x.tdiv 10).natAbs=m / 10:=by
     rw [Int.natAbs_tdiv,g3];rfl
   have gd:I64 (x.tdiv 10):=by
     unfold I64 at hI ⊢;have:m / 10<=m:=qc4 _ _;omega
   refine zC7 oo<|JOIN.mk (λus w'=>w'=w1/\us=[.int .i64 ((m%10:Nat):Int)]) ?_ ?_
   . refine zah ?_;refine br (λhl=>?_) (λhl=>?_)
     . refine zDH io ?_;rcases g0 with ⟨h,_⟩ | ⟨h,_⟩
       . omega
       rw [h,Int.neg_neg];exact ⟨rfl,rfl⟩
     rcases g0 with ⟨h,_⟩ | ⟨h,_⟩
     . rw [h];exact ⟨rfl,rfl⟩
     have:((m%10:Nat):Int)=0:=oo;rw [h,this];exact ⟨rfl,rfl⟩
   rintro _ _ ⟨rfl,g9⟩;try replace g9:=zbv g9
   rw [g9];refine (zwo (Nat.mod_lt _ oo)).mono ?_;rintro _ w3 ⟨gl,rfl⟩;refine znk (α:=UInt8) u24 ty5 z5 dD (zBW (lo:=w3.heap.size) (hi:=w3.heap.size)) (lr _) λ_ _ gn gp=>zly u24 u5 u9 gp.is (xrf _)<|zbt (by show 1+s.size<=9223372036854775807;omega)<|zDG oo gd ?_;have gf:=zyZ g1 s;refine ⟨m / 10,Nat.div_lt_self oo oo,_,_,rfl,(g2.t gl).trans gn,g5,gd,λh=>hd.trans (gf.1 h),λh=>hd.trans (gf.2 h)⟩
 have g1:m=0:=oo;have hd:=hB g1
 have g4:s.size<=20:=by
   have:=qat List.length hd;rw [zaB] at this;omega
 refine br (λgb=>?_) (λgc=>?_)
 . refine zbt (by show 1+s.size<=9223372036854775807;omega) ?_;refine ⟨g2,?_⟩;congr 1;refine zoc ?_;unfold znl Lib.itoa;rw [qah gb,hd];simp [bts,qc3]
 refine ⟨g2,?_⟩;congr 1;refine zoc ?_;unfold znl Lib.itoa;rw [qad gc,show n.toNat=n.natAbs by omega,hd];simp [bts]
def zeK (s:ByteArray) (i:Nat):Bool:=match (bts s)[i]? with | some b=>zmS b | none=>false
def zf4 (s:ByteArray) (i:Nat):Bool:=match (bts s)[i]? with | some b=>zju b | none=>false
def zeR (s:ByteArray) (i:Nat):Int:=match (bts s)[i]? with | some b=>(b.toNat:Int) | none=>-1
def zlz (h:i<s.size):zeK s i=decide ((97:Int)<=(((bts s)[i]'(by rw [zaB];exact h)).toNat:Int)/\(((bts s)[i]'(by rw [zaB];exact h)).toNat:Int)<=122):=by
 unfold zeK;rw [List.getElem?_eq_getElem (by rw [zaB];exact h)];rfl
def zou (h:i<s.size):zf4 s i=decide ((48:Int)<=(((bts s)[i]'(by rw [zaB];exact h)).toNat:Int)/\(((bts s)[i]'(by rw [zaB];exact h)).toNat:Int)<=57):=by
 unfold zf4;rw [List.getElem?_eq_getElem (by rw [zaB];exact h)];rfl
def zfA (h:i<s.size):(((bts s)[i]'(by rw [zaB];exact h)).toNat:Int)=zeR s i:=by
 unfold zeR;rw [List.getElem?_eq_getElem (by rw [zaB];exact h)]
def zAY (h:zeK s i=true):i<s.size:=by
 rcases qaw i s.size with h1 | h1
 . exact h1
 unfold zeK at h;rw [List.getElem?_eq_none (by rw [zaB];exact h1)] at h;cases h
def zAZ (h:zf4 s i=true):i<s.size:=by
 rcases qaw i s.size with h1 | h1
 . exact h1
 unfold zf4 at h;rw [List.getElem?_eq_none (by rw [zaB];exact h1)] at h;cases h
structure RunTo (s:ByteArray) (i e:Nat):Prop where
 le:i<=e
 lt:e<=s.size
 all:∀ k,i<=k->k<e->(zeK s k || zf4 s k)=true
 stop:e<s.size->(zeK s e || zf4 s e)=false
def zBZ (s:ByteArray):Nat->Nat->Nat
 | 0,i=>i
 | n+1,i=>if (zeK s i || zf4 s i)=true then zBZ s n (i+1) else i
def zcK (s:ByteArray) (i:Nat):Nat:=zBZ s (s.size-i) i
theorem zwr {s:ByteArray}:∀ (n i:Nat),i+n=s.size->RunTo s i (zBZ s n i)
 | 0,i,h=>⟨qaE _,by rw [zBZ];omega,λk h1 h2=>by rw [zBZ] at h2;omega,λh2=>by rw [zBZ] at h2;omega⟩
 | n+1,i,h=>by
   rw [zBZ];split
   . rename_i hc;have ih:=zwr (s:=s) n (i+1) oo;refine ⟨by have:=ih.le;omega,ih.lt,λk h1 h2=>?_,ih.stop⟩;rcases Nat.eq_or_lt_of_le h1 with e | h3
     . rw [<-e];exact hc
     exact ih.all k h3 h2
   rename_i hc;exact ⟨qaE _,oo,λk h1 h2=>oo,λ_=>by simpa using hc⟩
def ziS (h:i<=s.size):RunTo s i (zcK s i):=zwr _ _ oo
def zeB (h:(zeK s i || zf4 s i)=true):i<zcK s i:=by
 have hi:i<s.size:=by
   rcases qaQ _ _▸h with h | h
   . exact zAY h
   exact zAZ h
 have:=ziS (s:=s) (i:=i) oo;have h1:=this.le;rcases Nat.eq_or_lt_of_le h1 with e | h2
 . have:=this.stop oo;rw [<-e,h] at this;cases this
 exact h2
def zky (s:ByteArray):Option Int:=if (bts s).all zju=true/\s.size<=10/\zlp (bts s)<=1000000000/\znl (zlp (bts s))=s then some (zlp (bts s)) else none
def zaV:List ByteArray:=[.mk #[123],.mk #[125],.mk #[40],.mk #[41],.mk #[59],.mk #[44],.mk #[61],.mk #[61,61],.mk #[60],.mk #[43],.mk #[45],.mk #[42]]
def zch (s:ByteArray) (i:Nat):Bool×DSign:=
 if zeK s i=true then (decide (zcK s i-i<=12),⟨1,s.extract i (zcK s i),i⟩)
 else if zf4 s i=true then ((zky (s.extract i (zcK s i))).isSome,⟨2,s.extract i (zcK s i),i⟩)
 else if i+2<=s.size/\s.extract i (i+2)=ByteArray.mk #[61,61] then (true,⟨3,s.extract i (i+2),i⟩)
 else (decide (s.extract i (i+1)∈zaV),⟨3,s.extract i (i+1),i⟩)
def zrA (s:ByteArray) (i:Nat):Prop:=zeR s i=32\/zeR s i=9\/zeR s i=10\/zeR s i=13
instance (s:ByteArray) (i:Nat):Decidable (zrA s i):=inferInstanceAs (Decidable (zeR s i=32\/zeR s i=9\/zeR s i=10\/zeR s i=13))
def zjv (s:ByteArray):Nat->Nat->List DSign->List DSign×DFault
 | 0,i,acc=>(acc,⟨0,0⟩)
 | n+1,i,acc=>
   if i<s.size then
     (if zrA s i then zjv s n (i+1) acc
     else if (zch s i).1=true then zjv s n (i+(zch s i).2.text.size) (acc++[(zch s i).2])
     else ([],⟨2,(i:Int)⟩))
   else (acc,⟨0,0⟩)
def zdk (s:ByteArray):List DSign×DFault:=if 6000<s.size then ([],⟨1,0⟩) else zjv s (s.size+1) 0 []
def zjD (h:i<s.size):1<=(zch s i).2.text.size/\i+(zch s i).2.text.size<=s.size:=by
 have hr:=ziS (s:=s) (i:=i) oo;have:=hr.lt;unfold zch;split
 . rename_i hl;have:=zeB (s:=s) (i:=i) (by rw [hl];rfl);simp only [qbg];omega
 split
 . rename_i hl;have:=zeB (s:=s) (i:=i) (by rw [hl];simp);simp only [qbg];omega
 split
 . simp only [qbg];omega
 simp only [qbg];omega
structure SgOk (x:DSign):Prop where
 name:zaz x.text=true->x.kind=1
 num:x.kind=2->zky x.text=some (zlp (bts x.text))/\zaz x.text=false
 at0:0<=x.at_
 at1:x.at_<=6000
 size:x.text.size<=6000
def zgF (s:ByteArray) (i j:Nat):bts (s.extract i j)=((bts s).take j).drop i:=by
 unfold bts;simp [ByteArray.data_extract,Array.toList_extract,List.extract,List.drop_take]
def zlA {t:ByteArray} (h:t∈zaV):zaz t=false:=by
 simp only [zaV,qaa,qag,qaz] at h;rcases h with rfl | rfl | rfl | rfl | rfl | rfl | rfl | rfl | rfl | rfl | rfl | rfl<;>decide
def znm (h:zf4 s i=true) (hl:zeK s i=false) (g0:i<j):zaz (s.extract i j)=false:=by
 have hi:=zAZ h;unfold zeK at hl;rw [List.getElem?_eq_getElem (by rw [zaB];exact hi)] at hl
 have e:(bts (s.extract i j)).head?.any zmS=false:=by
   rw [zgF,List.head?_drop,List.getElem?_take,qah g0,List.getElem?_eq_getElem (by rw [zaB];exact hi)];exact hl
 unfold zaz zh0;rw [e];simp
def zy0 (h:i<s.size) (hs:s.size<=6000) (C:(zch s i).1=true):SgOk (zch s i).2:=by
 have hz:=zjD h;have h3:(zch s i).2.text.size<=6000:=oo
 have g0:(zch s i).2.at_=(i:Int):=by
   unfold zch;split
   . rfl
   split
   . rfl
   split<;>rfl
 refine ⟨?_,?_,by rw [g0];omega,by rw [g0];omega,h3⟩
 . unfold zch at C ⊢;split
   . intro _;rfl
   rename_i hl;have hl:zeK s i=false:=by simpa using hl
   split
   . rename_i hf;intro hn;have:=zeB (s:=s) (i:=i) (by rw [hf];simp);rw [znm hf hl this] at hn;cases hn
   rename_i hf;split
   . rename_i hq;intro hn;exfalso;rw [zlA (t:=s.extract i (i+2)) (by rw [hq.2];simp [zaV])] at hn;cases hn
   rename_i hq;rw [qad (by simp [hl]),qad hf,qad hq] at C;intro hn;exfalso;rw [zlA (of_decide_eq_true C)] at hn;cases hn
 unfold zch at C ⊢;split
 . intro hk;simp only at hk;omega
 rename_i hl;have hl:zeK s i=false:=by simpa using hl
 split
 . rename_i hf;intro _;rw [qad (by simp [hl]),qah hf] at C;have:=zeB (s:=s) (i:=i) (by rw [hf];simp);refine ⟨?_,znm hf hl this⟩;simp only at C ⊢;unfold zky at C ⊢;split at C
   . rename_i hq;rw [qah hq]
   cases C
 split
 . intro hk;simp only at hk;omega
 intro hk;simp only at hk;omega
theorem zrB {s:ByteArray} (hs:s.size<=6000):∀ (n i:Nat) (acc:List DSign),(∀ x∈acc,SgOk x)->acc.length<=i->i<=s.size->(∀ x∈(zjv s n i acc).1,SgOk x)/\(zjv s n i acc).1.length<=6000/\0<=(zjv s n i acc).2.at_/\(zjv s n i acc).2.at_<=6000/\0<=(zjv s n i acc).2.code/\(zjv s n i acc).2.code<=5
 | 0,i,acc,h1,h2,h3=>by rw [zjv];exact ⟨h1,by simp only;omega,ss,ss,ss,ss⟩
 | n+1,i,acc,h1,h2,h3=>by
   rw [zjv];split
   . rename_i hi;split
     . exact zrB hs n (i+1) acc h1 oo oo
     split
     . rename_i hok;have hz:=zjD hi;refine zrB hs n _ _ (λx hx=>?_) (by rw [qab,qaC];omega) hz.2;rcases qae.1 hx with hx | hx
       . exact h1 x hx
       rw [qay.1 hx];exact zy0 hi hs hok
     refine ⟨(λx hx=>by cases hx),ss,?_,?_,ss,ss⟩<;>simp only<;>omega
   exact ⟨h1,by simp only;omega,ss,ss,ss,ss⟩
def zrC (s:ByteArray):(∀ x∈(zdk s).1,SgOk x)/\(zdk s).1.length<=6000/\0<=(zdk s).2.at_/\(zdk s).2.at_<=6000/\0<=(zdk s).2.code/\(zdk s).2.code<=5/\((zdk s).2.code=0->s.size<=6000):=by
 unfold zdk;split
 . exact ⟨(λx hx=>by cases hx),ss,dD,dD,dD,dD,λh=>absurd h dD⟩
 rename_i h;have:=zrB (s:=s) oo (s.size+1) 0 [] ss ss oo;exact ⟨this.1,this.2.1,this.2.2.1,this.2.2.2.1,this.2.2.2.2.1,this.2.2.2.2.2,λ_=>oo⟩
def zy1 (h:zeK s i=true) (hr:RunTo s i e) (he:i<e):zh0 (s.extract i e)=decide (e-i<=12):=by
 have hi:=zAY h;have hlt:=hr.lt;have hz:(s.extract i e).size=e-i:=by rw [qbg];omega
 have e1:(bts (s.extract i e)).head?.any zmS=true:=by
   rw [zgF,List.head?_drop,List.getElem?_take,qah he,List.getElem?_eq_getElem (by rw [zaB];exact hi)];unfold zeK at h;rw [List.getElem?_eq_getElem (by rw [zaB];exact hi)] at h;exact h
 have e2:(bts (s.extract i e)).all (λb=>zmS b || zju b)=true:=by
   rw [qaH];intro b hb;rw [zgF] at hb;obtain ⟨k,hk,rfl⟩:=qcD hb;rw [qcT,List.getElem_take];rw [qbc,qao,zaB] at hk;have:=hr.all (i+k) oo oo;unfold zeK zf4 at this;rw [List.getElem?_eq_getElem (by rw [zaB];omega)] at this;exact this
 unfold zh0;rw [e1,e2,hz];simp
def zpT:(zdk s).2.code=0->(zdk s).2=⟨0,0⟩:=by
 unfold zdk;split
 . intro h;cases h
 intro h
 have g1:∀ (n i:Nat) (g0:List DSign),(zjv s n i g0).2.code=0->(zjv s n i g0).2=⟨0,0⟩:=by
   intro n
   induction n with
   | zero=>intro i g0 _;rw [zjv]
   | succ n ih=>
     intro i g0;rw [zjv];split
     . split
       . exact ih _ _
       split
       . exact ih _ _
       intro h;cases h
     intro _;rfl
 exact g1 _ _ _ h
end Go.Proofs.YtkgiigmcbgifdaaGreatDoor
namespace Go.Sh
open Rep (rep)
section
variable {P:pG} {w:wD} {K:vL->Prop} {t:TypeId} {x y:Operand} {a b:Int}
def zws {g0 dst:TypeId} {n:Nat} (hs:(P.underlying g0).isSome=true) (hd:P.underlying dst=some (.int .i64)) (hn:n<256) (k:K (.int .i64 (n:Int))):RD P (convert g0 dst (.int .u8 (n:Int))) w K:=by
 refine za9 (λ_ _=>?_) k;obtain ⟨_,g1⟩:=Option.isSome_iff_exists.mp hs;have:IntKind.i64.wrap (n:Int)=n:=IntWalk.i64_in _ oo;simp [convert,run_underlying g1,run_underlying hd,Conv.intToInt,this]
end
end Go.Sh
namespace Go.Proofs.YtkgiigmcbgifdaaGreatDoor
open Go Go.Sh Go.Proofs
open Rep (rep)
variable {F:List Nat} {W W0 W1 w:wD} {b k n o:Nat} {s:ByteArray} {ty:TypeId} {v v0 v1:vL}
def zbg:Nat->DTerm->Bool
 | n,.mk k num s ks=>
   if k=1 then decide (0<=num/\num<=1000000000)&&decide (s=ByteArray.mk #[])&&decide ((ks.length:Int)=0)
   else if k=2 then decide (num=0)&&zaz s&&decide ((ks.length:Int)=0)
   else decide (3<=k/\k<=9)&&decide (num=0)&&decide (s=ByteArray.mk #[])&&decide ((ks.length:Int)=if k=8 then 1 else 2) &&
     (match n with | 0=>false | m+1=>ks.all (zbg m))
def zes {t:DTerm} (h:t.kind=1):zbg n t=(decide (0<=t.num/\t.num<=1000000000)&&decide (t.name=ByteArray.mk #[])&&decide ((t.kids.length:Int)=0)):=by
 obtain ⟨k,_,_,_⟩:=t;have:k=1:=h;unfold zbg;rw [qah this];rfl
def zfB {t:DTerm} (h:t.kind=2):zbg n t=(decide (t.num=0)&&zaz t.name&&decide ((t.kids.length:Int)=0)):=by
 obtain ⟨k,_,_,_⟩:=t;have:k=2:=h;unfold zbg;rw [qad oo,qah this];rfl
def zbD {t:DTerm} (h1:¬t.kind=1) (h2:¬t.kind=2):zbg n t =
   (decide (3<=t.kind/\t.kind<=9)&&decide (t.num=0)&&decide (t.name=ByteArray.mk #[])&&decide ((t.kids.length:Int)=if t.kind=8 then 1 else 2)&&(match n with | 0=>false | m+1=>t.kids.all (zbg m))):=by
 obtain ⟨k,_,_,_⟩:=t;have h1:¬k=1:=h1;have h2:¬k=2:=h2;unfold zbg;rw [qad h1,qad h2];rfl
def zkG {α:Type} {p:α->Bool} {l:List α} (hk:k<l.length) (h:(l.take k).all p=true) (hp:p l[k]=true):(l.take (k+1)).all p=true:=by
 rw [tk hk,qc5,h];simp [hp]
def ziT {α:Type} {p:α->Bool} {l:List α} (hk:k<l.length) (hp:p l[k]=false):l.all p=false:=by
 rw [qcR];exact ⟨_,qac hk,by simp [hp]⟩
def zkH {α:Type} {p:α->Bool} {l:List α} (hk:l.length<=k) (h:(l.take k).all p=true):l.all p=true:=by
 rwa [qai hk] at h
def zEv (f:Nat) (n:Nat):Prop:=∀ {w W:wD} {v:vL} {t:DTerm} {d:Int},Is W v t->Ext W w->d=(n:Int) ->
 CALL tp f [v,.int .i64 d] w λr w'=>Ext w w'/\r=.bool (zbg n t)
def zov {t:DTerm} {d:Int} (h0:Is W0 v0 t) (e0:Ext W0 w) (hd:d=(n:Int)) (ih:∀ m,m+1=n->zEv 252 m) (hn:n<=6) :
   CALL tp 252 [v0,.int .i64 d] w λr w'=>Ext w w'/\(r=.bool (zbg n t)):=by
 refine co (g:=kf [(18,9223372036854775696,[])] [(21,309182778366441411431104592,[78])] []) Tryz.func252 ?_;refine za2 zcD rfl h0 e0 λC y1 D _=>JOIN.mk (λus w'=>us=[]/\Ext C w'/\(3<=t.kind/\t.kind<=9/\(t.kids.length:Int)=(if t.kind=8 then 1 else 2))) ?_ ?_
 . refine zaa zfw ?_;refine zad ty3 (zcI D) (xrf C) λ_=>zag<|br (λc1=>?_) (λc1=>?_)
   . refine zaa zgY ?_;refine zad ty3 (zco D) (xrf C) λ_=>zcH<|br (λc2=>?_) (λc2=>?_)
     . refine zaa zgY ?_;refine zad ty3 (zco D) (xrf C) λ_=>zdJ<|br (λc3=>?_) (λc3=>?_)
       . refine zaa zfx ?_;refine zaq ty9 (zb1 D) (xrf C) λ_=>zat<|br (λc4=>?_) (λc4=>?_)
         . refine zaa zcr ?_;refine zab ziM (za7 D) (xrf C) λ_ g4=>?_;have:=zan g4;refine zae u65 g4<|zag<|⟨y1,?_⟩;rw [zes c1];simp only [c2,c3,c4,and_self,qbb,qbZ]
         refine ⟨y1,?_⟩;rw [zes c1];simp only [c4,qak,qbp,qbj]
       refine ⟨y1,?_⟩;rw [zes c1];simp only [c3,and_false,qak,qbj]
     refine ⟨y1,?_⟩;rw [zes c1];simp only [c2,false_and,qak,qbj]
   refine zag<|br (λc5=>?_) (λc5=>?_)
   . refine zaa zgY ?_;refine zad ty3 (zco D) (xrf C) λ_=>zag<|br (λc6=>?_) (λc6=>?_)
     . refine zaa zfx ?_;refine zaq ty9 (zb1 D) (xrf C) λ_=>?_;refine (implIsName_ok ).mono ?_;rintro _ _ ⟨y3,rfl⟩;refine zaN (λc7=>?_) (λc7=>?_)
       . refine zaa zcr ?_;refine zab ziM (za7 D) y3 λ_ g5=>?_;have:=zan g5;refine zae u65 g5<|zag<|⟨(y1.t y3),?_⟩;rw [zfB c5];simp only [c6,c7,qbb,qbZ]
       refine ⟨(y1.t y3),?_⟩;rw [zfB c5];simp only [c6,c7,qbb,qbZ,qbj]
     refine ⟨y1,?_⟩;rw [zfB c5];simp only [c6,qak,qbj]
   refine zag<|br (λc8=>?_) (λc8=>?_)
   . refine zaa zcr ?_;refine zab ziM (za7 D) (xrf C) λV M=>?_;have O:=zan M;refine zae u65 M<|zaJ<|br (λc9=>?_) (λc9=>?_)
     . refine ⟨y1,?_⟩;rw [zbD c1 c5];simp [show ¬t.kind=8 by omega,show ¬(t.kids.length:Int)=2 from c9]
     refine ⟨ss,xrf C,?_⟩;split<;>omega
   refine zag<|br (λgn=>?_) (λgn=>?_)
   . refine zaa zcr ?_;refine zab ziM (za7 D) (xrf C) λV M=>?_;have O:=zan M;refine zae u65 M<|zaJ<|br (λg9=>?_) (λg9=>?_)
     . refine ⟨y1,?_⟩;rw [zbD c1 c5];simp [show ¬t.kind=8 by omega,show ¬(t.kids.length:Int)=2 from g9]
     refine ⟨ss,xrf C,?_⟩;split<;>omega
   refine zag<|br (λgp=>?_) (λgp=>?_)
   . refine zaa zcr ?_;refine zab ziM (za7 D) (xrf C) λV M=>?_;have O:=zan M;refine zae u65 M<|zaJ<|br (λgb=>?_) (λgb=>?_)
     . refine ⟨y1,?_⟩;rw [zbD c1 c5];simp [show ¬t.kind=8 by omega,show ¬(t.kids.length:Int)=2 from gb]
     refine ⟨ss,xrf C,?_⟩;split<;>omega
   refine zag<|br (λgq=>?_) (λgq=>?_)
   . refine zaa zcr ?_;refine zab ziM (za7 D) (xrf C) λV M=>?_;have O:=zan M;refine zae u65 M<|zaJ<|br (λgc=>?_) (λgc=>?_)
     . refine ⟨y1,?_⟩;rw [zbD c1 c5];simp [show ¬t.kind=8 by omega,show ¬(t.kids.length:Int)=2 from gc]
     refine ⟨ss,xrf C,?_⟩;split<;>omega
   refine zag<|br (λgr=>?_) (λgr=>?_)
   . refine zaa zcr ?_;refine zab ziM (za7 D) (xrf C) λV M=>?_;have O:=zan M;refine zae u65 M<|zaJ<|br (λgd=>?_) (λgd=>?_)
     . refine ⟨y1,?_⟩;rw [zbD c1 c5];simp [show ¬t.kind=8 by omega,show ¬(t.kids.length:Int)=2 from gd]
     refine ⟨ss,xrf C,?_⟩;split<;>omega
   refine zag<|br (λgs=>?_) (λgs=>?_)
   . refine zaa zcr ?_;refine zab ziM (za7 D) (xrf C) λV M=>?_;have O:=zan M;refine zae u65 M<|zaJ<|br (λgf=>?_) (λgf=>?_)
     . refine ⟨y1,?_⟩;rw [zbD c1 c5];simp [show ¬t.kind=8 by omega,show ¬(t.kids.length:Int)=2 from gf]
     refine ⟨ss,xrf C,?_⟩;split<;>omega
   refine zag<|br (λgg=>?_) (λgg=>?_)
   . refine zaa zcr ?_;refine zab ziM (za7 D) (xrf C) λ_ gh=>?_;have:=zan gh;refine zae u65 gh<|zaJ<|br (λgi=>?_) (λgi=>?_)
     . refine ⟨y1,?_⟩;rw [zbD c1 c5];simp [gg,show ¬(t.kids.length:Int)=1 from gi]
     refine ⟨ss,xrf C,?_⟩;split<;>omega
   refine ⟨y1,?_⟩;rw [zbD c1 c5];simp [show ¬(3<=t.kind/\t.kind<=9) by omega]
 rintro _ gj ⟨hu,y3,gt,gx,gy⟩;try replace hu:=zbv hu
 clear hu;refine zaa zgY<|zad ty3 (zco D) y3 λ_=>zaJ<|br (λg2=>?_) (λg2=>?_)
 . refine ⟨(y1.t y3),?_⟩;rw [zbD oo oo];simp [g2]
 refine zaa zfx<|zaq ty9 (zb1 D) y3 λ_=>ze7<|br (λg3=>?_) (λg3=>?_)
 . refine ⟨(y1.t y3),?_⟩;rw [zbD oo oo];simp [g3]
 refine zag<|br (λgz=>?_) (λgz=>?_)
 . refine ⟨(y1.t y3),?_⟩;rw [zbD oo oo];simp [show n=0 by omega]
 refine zaa zcr<|zab ziM (za7 D) y3 λ_ g0=>?_;have:=zan g0;refine zae u65 g0<|zar (t.kids.length) (λk us w'=>us=[.int .i64 (k:Int)]/\Ext gj w'/\((t.kids.take k).all (zbg (n-1))=true)) (0) oo ⟨ss,xrf gj,ss⟩ ?_;rintro k gA _ _ _ ⟨hu,y4,U⟩;try replace hu:=zbv hu
 try rw [hu]
 try clear hu
 refine zah<|br (λgB=>?_) (λgB=>?_)
 . refine zac u65 zcD g0 oo λ_ _ gC=>?_;refine zab zcD gC (y3.t y4) λ_ gl=>zbN zri rfl zcD rfl gl (y3.t y4) λgD y5 _ gE=>zcC gE (xrf gD)<|zbp io ?_;refine (ih (n-1) oo gl (y3.t (y4.t y5)) oo).mono ?_;rintro _ _ ⟨y6,rfl⟩;refine zau<|zaN (λg1=>?_) (λg1=>?_)
   . refine ⟨(y1.t (y3.t (y4.t (y5.t y6)))),?_⟩;rw [zbD oo oo];obtain ⟨m,rfl⟩:∃ m,n=m+1:=⟨n-1,oo⟩;rw [qaT,qbL] at g1;simp only [ziT oo g1,qbp]
   have:=zan g0;refine zaw<|⟨gA-1,oo,k+1,oo,ss,(y4.t (y5.t y6)),?_⟩;exact zkG oo U (by simpa using g1)
 refine ⟨(y1.t (y3.t y4)),?_⟩;rw [zbD oo oo];obtain ⟨m,rfl⟩:∃ m,n=m+1:=⟨n-1,oo⟩;rw [qbL] at U;simp only [show 3<=t.kind/\t.kind<=9 from ⟨gt,gx⟩,qaf.1 g2,qaf.1 g3,gy,zkH oo U,and_self,qbb,qdc]
theorem zlB:∀ (n:Nat),n<=6->zEv 252 n
 | n,hn=>by intro h e hd;exact zov h e hd (λm hm=>zlB m oo) hn
def zdp {t:DTerm}  (h0:Is W0 v0 t) (e0:Ext W0 w)  :
   CALL tp 188 [v0] w λr w'=>Ext w w'/\(r=.bool (zbg 6 t)):=by
 refine co (g:=kf [] [] []) Tryz.func188 ?_;refine za2 zcD rfl h0 e0 λg0 y1 _ g1=>zcC g1 (xrf g0) ?_;refine ((zlB 6 oo) h0 (e0.t y1) rfl).mono ?_;rintro _ _ ⟨y2,rfl⟩;refine ⟨(y1.t y2),?_⟩;rfl
def zow {t:DTerm} {d:Int} (h0:Is W0 v0 t) (e0:Ext W0 w) (hd:d=(n:Int)) (ih:∀ m,m+1=n->zEv 230 m) (hn:n<=6) :
   CALL tp 230 [v0,.int .i64 d] w λr w'=>Ext w w'/\(r=.bool (zbg n t)):=by
 refine co (g:=kf [(9,15393162788896,[5])] [(12,38685035931857774884946000,[6])] []) Tryz.func230 ?_;refine za2 zcD rfl h0 e0 λM y1 C _=>zaa zfw<|zad ty3 (zcI C) (xrf M) λ_=>zag<|br (λc1=>?_) (λc1=>?_)
 . refine zaa zgY ?_;refine zad ty3 (zco C) (xrf M) λ_=>?_;refine (l01In_ok ).mono ?_;rintro _ _ ⟨y2,rfl⟩;refine br (λc2=>?_) (λc2=>?_)
   . refine zaa zfx ?_;refine zaq ty9 (zb1 C) y2 λ_=>zat<|br (λc3=>?_) (λc3=>?_)
     . refine zaa zcr ?_;refine zab ziM (za7 C) y2 λ_ g4=>?_;have:=zan g4;refine zae u65 g4<|zag<|⟨(y1.t y2),?_⟩;rw [zes c1];simp only [c2,c3,and_self,qbb,qbZ]
     refine ⟨(y1.t y2),?_⟩;rw [zes c1];simp only [c3,qak,qbp,qbj]
   refine ⟨(y1.t y2),?_⟩;rw [zes c1];simp only [c2,qak,qbj]
 refine zag<|br (λc4=>?_) (λc4=>?_)
 . refine zaa zgY ?_;refine zad ty3 (zco C) (xrf M) λ_=>zag<|br (λc5=>?_) (λc5=>?_)
   . refine zaa zfx ?_;refine zaq ty9 (zb1 C) (xrf M) λ_=>?_;refine (specIsName_ok ).mono ?_;rintro _ _ ⟨y3,rfl⟩;refine zaN (λc6=>?_) (λc6=>?_)
     . refine zaa zcr ?_;refine zab ziM (za7 C) y3 λ_ g5=>?_;have:=zan g5;refine zae u65 g5<|zag<|⟨(y1.t y3),?_⟩;rw [zfB c4];simp only [c5,c6,qbb,qbZ]
     refine ⟨(y1.t y3),?_⟩;rw [zfB c4];simp only [c5,c6,qbb,qbZ,qbj]
   refine ⟨y1,?_⟩;rw [zfB c4];simp only [c5,qak,qbj]
 refine JOIN.mk (λus w'=>us=[.int .i64 (if t.kind=8 then 1 else 2)]/\Ext M w'/\(True)) ?_ ?_
 . refine zaa zfw ?_;refine zad ty3 (zcI C) (xrf M) λ_=>zag<|br (λc7=>?_) (λc7=>?_)
   . refine ⟨by rw [qah c7],xrf M,?_⟩;trivial
   refine ⟨by rw [qad c7],xrf M,?_⟩;trivial
 rintro _ _ ⟨hu,y4,D⟩;try replace hu:=zbv hu
 try rw [hu]
 try clear hu
 refine zaa zfw<|zad ty3 (zcI C) y4 λ_=>?_;refine (l01In_ok ).mono ?_;rintro _ g9 ⟨y5,rfl⟩;refine za0<|br (λc8=>?_) (λc8=>?_)
 . refine ⟨(y1.t (y4.t y5)),?_⟩;rw [zbD c1 c4];simp only [c8,qak,qbj]
 refine zaa zgY<|zad ty3 (zco C) (y4.t y5) λ_=>zaJ<|br (λc9=>?_) (λc9=>?_)
 . refine ⟨(y1.t (y4.t y5)),?_⟩;rw [zbD c1 c4];simp only [show ¬t.num=0 from c9,qak,qbj,qbp]
 refine zaa zfx<|zaq ty9 (zb1 C) (y4.t y5) λ_=>ze7<|br (λg1=>?_) (λg1=>?_)
 . refine ⟨(y1.t (y4.t y5)),?_⟩;rw [zbD c1 c4];simp only [show ¬t.name=_ from g1,qak,qbj,qbp]
 refine zaa zcr<|zab ziM (za7 C) (y4.t y5) λ_ gb=>?_;have:=zan gb;refine zae u65 gb<|zaJ<|br (λg2=>?_) (λg2=>?_)
 . refine ⟨(y1.t (y4.t y5)),?_⟩;rw [zbD c1 c4];simp only [show ¬(t.kids.length:Int)=_ from g2,qak,qbj,qbp]
 refine zag<|br (λgc=>?_) (λgc=>?_)
 . refine ⟨(y1.t (y4.t y5)),?_⟩;rw [zbD c1 c4];simp [show n=0 by omega]
 refine zar (t.kids.length) (λk us w'=>us=[.int .i64 (k:Int)]/\Ext g9 w'/\((t.kids.take k).all (zbg (n-1))=true)) (0) oo ⟨ss,xrf g9,ss⟩ ?_;rintro k gd _ _ _ ⟨hu,y6,D⟩;try replace hu:=zbv hu
 try rw [hu]
 try clear hu
 refine zaa zcr<|zab ziM (za7 C) (y4.t (y5.t y6)) λ_ g3=>?_;have:=zan g3;refine zae u65 g3<|zah<|br (λgf=>?_) (λgf=>?_)
 . refine zaa zcr ?_;refine zab ziM (za7 C) (y4.t (y5.t y6)) λ_ gg=>zac u65 zcD gg oo λ_ _ gh=>zab zcD gh (y4.t (y5.t y6)) λ_ gi=>zbp io ?_;refine (ih (n-1) oo gi (y4.t (y5.t y6)) oo).mono ?_;rintro _ _ ⟨y7,rfl⟩;refine zau<|zaN (λg0=>?_) (λg0=>?_)
   . refine ⟨(y1.t (y4.t (y5.t (y6.t y7)))),?_⟩;rw [zbD c1 c4];obtain ⟨m,rfl⟩:∃ m,n=m+1:=⟨n-1,oo⟩;rw [qaT,qbL] at g0;simp only [ziT oo g0,qbp]
   have:=zan g3;refine zaw<|⟨gd-1,oo,k+1,oo,ss,(y6.t y7),?_⟩;exact zkG oo D (by simpa using g0)
 refine ⟨(y1.t (y4.t (y5.t y6))),?_⟩;rw [zbD c1 c4];obtain ⟨m,rfl⟩:∃ m,n=m+1:=⟨n-1,oo⟩;rw [qbL] at D;simp only [qaf.1 c8,qaf.1 c9,qaf.1 g1,qaf.1 g2,zkH oo D,and_self,qbb,qdc]
theorem zlC:∀ (n:Nat),n<=6->zEv 230 n
 | n,hn=>by intro h e hd;exact zow h e hd (λm hm=>zlC m oo) hn
def zdq {t:DTerm}  (h0:Is W0 v0 t) (e0:Ext W0 w)  :
   CALL tp 170 [v0] w λr w'=>Ext w w'/\(r=.bool (zbg 6 t)):=by
 refine co (g:=kf [] [] []) Tryz.func170 ?_;refine za2 zcD rfl h0 e0 λg0 y1 _ g1=>zcC g1 (xrf g0) ?_;refine ((zlC 6 oo) h0 (e0.t y1) rfl).mono ?_;rintro _ _ ⟨y2,rfl⟩;refine ⟨(y1.t y2),?_⟩;rfl
def term0:DTerm:=.mk 0 0 (ByteArray.mk #[]) []
def zdr {t:DTerm}  (h0:Is W0 v0 t) (e0:Ext W0 w)  :
   CALL tp 189 [v0] w λr w'=>Ext w w'/\(r=.bool (decide (t=term0))):=by
 refine co (g:=kf [] [] []) Tryz.func189 ?_;refine za2 zcD rfl h0 e0 λg0 y1 g1 _=>zaa zfw<|zad ty3 (zcI g1) (xrf g0) λ_=>zag<|br (λc1=>?_) (λc1=>?_)
 . refine zaa zgY ?_;refine zad ty3 (zco g1) (xrf g0) λ_=>zag<|br (λc2=>?_) (λc2=>?_)
   . refine zaa zfx ?_;refine zaq ty9 (zb1 g1) (xrf g0) λ_=>zat<|br (λc3=>?_) (λc3=>?_)
     . refine zaa zcr ?_;refine zab ziM (za7 g1) (xrf g0) λ_ g2=>?_;have g3:=zan g2;refine zae u65 g2<|zag<|⟨y1,?_⟩;congr 1;rw [decide_eq_decide,DTerm.ext_iff];exact ⟨λh=>⟨c1,c2,c3,qaj oo⟩,λh=>by rw [h.2.2.2];rfl⟩
     refine ⟨y1,?_⟩;have:t≠term0:=λe=>c3 (by rw [e];rfl);simp [this]
   refine ⟨y1,?_⟩;have:t≠term0:=λe=>c2 (by rw [e];rfl);simp [this]
 refine ⟨y1,?_⟩;have:t≠term0:=λe=>c1 (by rw [e];rfl);simp [this]
def zkk {t:DTerm} {t2:DTerm}  (h0:Is W0 v0 t) (e0:Ext W0 w) (h1:Is W1 v1 t2) (e1:Ext W1 w) (ht:t2=term0) :
   CALL tp 172 [v0,v1] w λr w'=>Ext w w'/\(r=.bool (decide (t=term0))):=by
 refine co (g:=kf [] [(4,9007182074871856,[5])] [(6,[0,1,2,3,4,5,6,7,8,9,10,11],0)]) Tryz.func172 ?_;subst ht;refine za2 zcD rfl h0 e0 λ_ y1 D _=>za2 zcD rfl h1 (e1.trans y1) λC y2 g0 _=>zaa zfw<|zad ty3 (zcI D) y2 λ_=>zaa zfw<|zad ty3 (zcI g0) (xrf C) λ_=>zaJ<|br (λc1=>?_) (λc1=>?_)
 . refine ⟨(y1.t y2),?_⟩;have:t≠term0:=λe=>c1 (by rw [e]);simp [this]
 refine zaa zgY<|zad ty3 (zco D) y2 λ_=>zaa zgY<|zad ty3 (zco g0) (xrf C) λ_=>zaJ<|br (λc2=>?_) (λc2=>?_)
 . refine ⟨(y1.t y2),?_⟩;have:t≠term0:=λe=>c2 (by rw [e]);simp [this]
 refine zaa zfx<|zaq ty9 (zb1 D) y2 λ_=>zaa zfx<|zaq ty9 (zb1 g0) (xrf C) λ_=>ze7<|br (λc3=>?_) (λc3=>?_)
 . refine ⟨(y1.t y2),?_⟩;have:t≠term0:=λe=>c3 (by rw [e]);simp [this]
 refine zaa zcr<|zab ziM (za7 D) y2 λ_ g1=>?_;have g2:=zan g1;refine zae u65 g1<|zaa zcr<|zab ziM (za7 g0) (xrf C) λ_ g3=>?_;have g4:=zan g3;refine zae u65 g3<|zaJ<|br (λc4=>?_) (λc4=>?_)
 . refine ⟨(y1.t y2),?_⟩;have:t≠term0:=λe=>c4 (by rw [e]);simp [this]
 refine zar (0) (λk us w'=>us=[.int .i64 (k:Int)]/\Ext C w'/\(True)) (0) oo ⟨ss,xrf C,trivial⟩ ?_;rintro k _ _ gb _ ⟨hu,y3,_⟩;try replace hu:=zbv hu
 try rw [hu]
 try clear hu
 refine zaa zcr<|zab ziM (za7 D) (y2.t y3) λ_ g5=>?_;have g9:=zan g5;refine zae u65 g5<|zah<|br (λc5=>?_) (λc5=>?_)
 . have y4:=zai gb;exact absurd c5 (by have:(term0.kids.length:Int)=0:=rfl;omega)
 refine ⟨(y1.t (y2.t y3)),?_⟩;have:t=term0:=DTerm.ext_iff.2 ⟨qaf.1 c1,qaf.1 c2,qaf.1 c3,qaj (by have:(term0.kids.length:Int)=0:=rfl;omega)⟩;simp [this]
def plc (s:ByteArray):List ByteArray->Int
 | []=>-1
 | x :: l=>if x=s then 0 else if plc s l<0 then -1 else plc s l+1
theorem zox {l:List ByteArray} (h:s∉l):plc s l=-1:=by
 induction l with
 | nil=>rfl
 | cons x l ih=>
   simp only [qaa,not_or] at h;rw [plc,qad (λe=>h.1 e.symm),ih h.2];rfl
theorem zsY {s:ByteArray}:∀ {l:List ByteArray} {k:Nat} (hk:k<l.length),s∉l.take k->l[k]=s->plc s l=k
 | x :: l,0,_,_,h=>by simp only [qbF] at h;rw [plc,qah h];rfl
 | x :: l,k+1,hk,hn,h=>by
   simp only [List.take_succ_cons,qaa,not_or] at hn;have ih:=zsY (by simpa using hk) hn.2 (by simpa using h);rw [plc,qad (λe=>hn.1 e.symm),ih,qad oo];omega
theorem ziU {l:List ByteArray}:-1<=plc s l/\plc s l<l.length:=by
 induction l with
 | nil=>simp [plc]
 | cons x l ih=>
   rw [plc];split
   . simp only [qam];omega
   split<;>simp only [qam]<;>omega
theorem zfT {l:List ByteArray}:0<=plc s l↔s∈l:=by
 induction l with
 | nil=>simp [plc]
 | cons x l ih=>
   rw [plc];split
   . rename_i h;simp [h]
   rename_i h;rw [qaa,<-ih];have:¬s=x:=λe=>h e.symm;simp only [this,false_or];split<;>omega
def zdB {l:List ByteArray} {y:ByteArray} (hk:k<l.length) (h:y∉l.take k) (c:¬l[k]=y):y∉l.take (k+1):=by
 rw [tk hk];simp only [qae,qaa,qag,qaz,not_or];exact ⟨h,λe=>c e.symm⟩
def zcx {l:(List ByteArray)}  (h0:Is W0 v0 l) (e0:Ext W0 w)  :
   CALL tp 73 [v0,.string s] w λr w'=>Ext w w'/\(r=.int .i64 (plc s l)):=by
 refine co (g:=kf [] [(2,524272,[5])] []) Tryz.func73 ?_;refine zar (l.length) (λk us w'=>us=[.int .i64 (k:Int)]/\Ext w w'/\(s∉l.take k)) (0) oo ⟨ss,xrf w,ss⟩ ?_;rintro k m2 _ _ _ ⟨hu,y1,C⟩;try replace hu:=zbv hu
 try rw [hu]
 try clear hu
 have:=zan h0;refine zae u26 h0<|zah<|br (λc1=>?_) (λc1=>?_)
 . refine zac u26 ty9 h0 oo λ_ _ g0=>?_;refine zaq ty9 g0 (e0.t y1) λ_=>zat<|br (λc2=>?_) (λc2=>?_)
   . refine ⟨y1,?_⟩;rw [zsY oo C c2]
   refine zaw<|⟨m2-1,oo,k+1,oo,ss,y1,?_⟩;exact zdB oo C c2
 refine ⟨y1,?_⟩;rw [qai oo] at C;rw [zox C]
def zil {l:(List ByteArray)}  (h0:Is W0 v0 l) (e0:Ext W0 w)  :
   CALL tp 138 [v0,.string s] w λr w'=>Ext w w'/\(r=.int .i64 (plc s l)):=by
 refine co (g:=kf [] [(2,524080,[8])] []) Tryz.func138 ?_;have:=zan h0;refine zae u26 h0<|zar (l.length) (λk us w'=>us=[.int .i64 (k:Int)]/\Ext w w'/\(s∉l.take k)) (0) oo ⟨ss,xrf w,ss⟩ ?_;rintro k m2 _ _ _ ⟨hu,y1,C⟩;try replace hu:=zbv hu
 try rw [hu]
 try clear hu
 refine zah<|br (λc1=>?_) (λc1=>?_)
 . refine zac u26 ty9 h0 oo λ_ _ g0=>?_;refine zaq ty9 g0 (e0.t y1) λ_=>zat<|br (λc2=>?_) (λc2=>?_)
   . refine ⟨y1,?_⟩;rw [zsY oo C c2.symm]
   refine zaw<|⟨m2-1,oo,k+1,oo,ss,y1,?_⟩;exact zdB oo C (λe=>c2 e.symm)
 refine ⟨y1,?_⟩;rw [qai oo] at C;rw [zox C]
def zcb {l:(List ByteArray)}  (h0:Is W0 v0 l) (e0:Ext W0 w)  :
   CALL tp 66 [v0,.string s] w λr w'=>Ext w w'/\(r=.bool (decide (s∈l))):=by
 refine co (g:=kf [] [] []) Tryz.func66 ?_;refine (zil h0 e0).mono ?_;rintro _ _ ⟨y1,rfl⟩;refine zcH<|⟨y1,?_⟩;simp [zfT]
def ziV {l:(List ByteArray)}  (h0:Is W0 v0 l) (e0:Ext W0 w)  :
   CALL tp 119 [v0,.string s] w λr w'=>Ext w w'/\(r=.bool (decide (s∈l))):=by
 refine co (g:=kf [] [(2,262128,[5])] []) Tryz.func119 ?_;refine zar (l.length) (λk us w'=>us=[.int .i64 (k:Int)]/\Ext w w'/\(s∉l.take k)) (0) oo ⟨ss,xrf w,ss⟩ ?_;rintro k m2 _ _ _ ⟨hu,y1,C⟩;try replace hu:=zbv hu
 try rw [hu]
 try clear hu
 have g0:=zan h0;refine zae u26 h0<|zah<|br (λc1=>?_) (λc1=>?_)
 . refine zac u26 ty9 h0 oo λ_ _ g1=>?_;refine zaq ty9 g1 (e0.t y1) λ_=>zat<|br (λc2=>?_) (λc2=>?_)
   . refine ⟨y1,?_⟩;have:s∈l:=c2▸qac _;simp [this]
   refine zaw<|⟨m2-1,oo,k+1,oo,ss,y1,?_⟩;exact zdB oo C c2
 refine ⟨y1,?_⟩;rw [qai oo] at C;simp [C]
def zfd {l:(List ByteArray)} {m:Int}  (h0:Is W0 v0 l) (e0:Ext W0 w)  :
   CALL tp 130 [v0,.int .i64 m] w λr w'=>Ext w w'/\(r=.bool (decide ((l.length:Int)<=m)&&l.all zaz)):=by
 refine co (g:=kf [] [(4,2089040,[13])] []) Tryz.func130 ?_;have:=zan h0;refine zae u26 h0<|zbZ<|br (λc1=>?_) (λc1=>?_)
 . refine ⟨xrf w,?_⟩;simp [show ¬(l.length:Int)<=m by omega]
 have:=zan h0;refine zae u26 h0<|zar (l.length) (λk us w'=>us=[.int .i64 (k:Int)]/\Ext w w'/\((l.take k).all zaz=true)) (0) oo ⟨ss,xrf w,ss⟩ ?_;rintro k m4 _ _ _ ⟨hu,y1,g0⟩;try replace hu:=zbv hu
 try rw [hu]
 try clear hu
 refine zah<|br (λc2=>?_) (λc2=>?_)
 . refine zac u26 ty9 h0 oo λ_ _ g1=>?_;refine zaq ty9 g1 (e0.t y1) λ_=>?_;refine (implIsName_ok ).mono ?_;rintro _ _ ⟨y2,rfl⟩;refine zau<|zaN (λc3=>?_) (λc3=>?_)
   . refine ⟨(y1.t y2),?_⟩;simp only [ziT (p:=zaz) (l:=l) (k:=k) oo (by simpa using c3),qbp]
   have:=zan h0;refine zaw<|⟨m4-1,oo,k+1,oo,ss,(y1.t y2),?_⟩;exact zkG oo g0 (by simpa using c3)
 refine ⟨y1,?_⟩;simp [zkH (p:=zaz) (l:=l) oo g0,show (l.length:Int)<=m by omega]
def zfe {l:(List ByteArray)} {m:Int}  (h0:Is W0 v0 l) (e0:Ext W0 w)  :
   CALL tp 100 [v0,.int .i64 m] w λr w'=>Ext w w'/\(r=.bool (decide ((l.length:Int)<=m)&&l.all zaz)):=by
 refine co (g:=kf [] [(4,4193328,[5])] []) Tryz.func100 ?_;have:=zan h0;refine zae u26 h0<|zbZ<|br (λc1=>?_) (λc1=>?_)
 . refine ⟨xrf w,?_⟩;simp [show ¬(l.length:Int)<=m by omega]
 refine zar (l.length) (λk us w'=>us=[.int .i64 (k:Int)]/\Ext w w'/\((l.take k).all zaz=true)) (0) oo ⟨ss,xrf w,ss⟩ ?_;rintro k m4 _ _ _ ⟨hu,y1,g0⟩;try replace hu:=zbv hu
 try rw [hu]
 try clear hu
 have:=zan h0;refine zae u26 h0<|zah<|br (λc2=>?_) (λc2=>?_)
 . refine zac u26 ty9 h0 oo λ_ _ g1=>?_;refine zaq ty9 g1 (e0.t y1) λ_=>?_;refine (specIsName_ok ).mono ?_;rintro _ _ ⟨y2,rfl⟩;refine zau<|zaN (λc3=>?_) (λc3=>?_)
   . refine ⟨(y1.t y2),?_⟩;simp only [ziT (p:=zaz) (l:=l) (k:=k) oo (by simpa using c3),qbp]
   refine zaw<|⟨m4-1,oo,k+1,oo,ss,(y1.t y2),?_⟩;exact zkG oo g0 (by simpa using c3)
 refine ⟨y1,?_⟩;simp [zkH (p:=zaz) (l:=l) oo g0,show (l.length:Int)<=m by omega]
instance decNodup:∀ (l:List ByteArray),Decidable l.Nodup
 | []=>isTrue qas
 | x :: l=>match decMemBA x l,decNodup l with
   | isFalse h,isTrue h'=>isTrue (qaR.2 ⟨h,h'⟩)
   | isTrue h,_=>isFalse λe=>(qaR.1 e).1 h
   | _,isFalse h=>isFalse λe=>h (qaR.1 e).2
def zDI {l:List ByteArray} (hk:k<l.length) (h:l[k]∈l.drop (k+1)):¬l.Nodup:=λhn=>by
 have e:l=l.take k++(l[k] :: l.drop (k+1)):=by simp
 rw [e,qav] at hn;exact (qaR.1 hn.2.1).1 h
def zB0 {l:List ByteArray} (hk:k<l.length) (h:l[k]∈l.take k):¬l.Nodup:=λhn=>by
 have e:l=l.take k++(l[k] :: l.drop (k+1)):=by simp
 rw [e,qav] at hn;exact hn.2.2 _ h _ List.mem_cons_self rfl
def zlD {l:List ByteArray} (hk:k<l.length) (h:(l.take k).Nodup) (c:l[k]∉l.take k):(l.take (k+1)).Nodup:=by
 rw [tk hk,qav];refine ⟨h,ss,λ_ ha _ hb e=>?_⟩;simp only [qaa,qag,qaz] at hb;subst e;subst hb;exact c ha
theorem zh5:∀ {l:List ByteArray},(∀ (k:Nat) (hk:k<l.length),l[k]∉l.drop (k+1))->l.Nodup
 | [],_=>qas
 | x :: l,h=>qaR.2 ⟨h 0 ss,zh5 λk hk=>h (k+1) (by simpa using hk)⟩
def zel {l:(List ByteArray)}  (h0:Is W0 v0 l) (e0:Ext W0 w)  :
   CALL tp 64 [v0] w λr w'=>Ext w w'/\(r=.bool (decide (¬l.Nodup))):=by
 refine co (g:=kf [] [(2,524188,[7])] []) Tryz.func64 ?_;have:=zan h0;refine zae u26 h0<|zar (l.length) (λk us w'=>us=[.int .i64 (k:Int)]/\Ext w w'/\(∀ (j:Nat) (hj:j<l.length),j<k->l[j]∉l.drop (j+1))) (0) oo ⟨ss,xrf w,λj hj h=>oo⟩ ?_;rintro k m2 _ _ _ ⟨hu,y1,g0⟩;try replace hu:=zbv hu
 try rw [hu]
 try clear hu
 have:=zan h0;refine zah<|br (λc1=>?_) (λc1=>?_)
 . refine zac u26 ty9 h0 oo λ_ _ g1=>?_;refine zaq ty9 g1 (e0.t y1) λ_=>zaw<|zgA u26 ty9 h0 oo oo λ_ g2=>?_;refine (zcb g2 (e0.t y1)).mono ?_;rintro _ _ ⟨y2,rfl⟩;refine br (λc2=>?_) (λc2=>?_)
   . refine ⟨(y1.t y2),?_⟩;simp [zDI oo c2]
   refine zaw<|⟨m2-1,oo,k+1,oo,ss,(y1.t y2),?_⟩;intro j hj _;by_cases h:j=k
   . subst h;exact c2
   exact g0 j hj oo
 refine ⟨y1,?_⟩;simp [zh5 λj hj=>g0 j hj oo]
def zem {l:(List ByteArray)}  (h0:Is W0 v0 l) (e0:Ext W0 w)  :
   CALL tp 53 [v0] w λr w'=>Ext w w'/\(r=.bool (decide (¬l.Nodup))):=by
 refine co (g:=kf [] [(2,262140,[3])] [(4,[0,1,2,3,4,5,6,7],0)]) Tryz.func53 ?_;refine zar (l.length) (λk us w'=>us=[.int .i64 (k:Int)]/\Ext w w'/\((l.take k).Nodup)) (0) oo ⟨ss,xrf w,ss⟩ ?_;rintro k m2 _ g0 _ ⟨hu,y1,C⟩;try replace hu:=zbv hu
 try rw [hu]
 try clear hu
 have:=zan h0;have:=zan h0;refine zae u26 h0<|zah<|br (λc1=>?_) (λc1=>?_)
 . have y2:=zai g0;refine zlv u26 ty9 h0 oo oo λ_ g1=>zac u26 ty9 h0 oo λ_ _ g2=>zaq ty9 g2 (e0.t (y1.t y2)) λ_=>?_;refine (ziV g1 (e0.t (y1.t y2))).mono ?_;rintro _ _ ⟨y3,rfl⟩;refine br (λc2=>?_) (λc2=>?_)
   . refine ⟨(y1.t (y2.t y3)),?_⟩;simp [zB0 oo c2]
   refine zaw<|⟨m2-1,oo,k+1,oo,ss,(y1.t (y2.t y3)),?_⟩;exact zlD oo C c2
 refine ⟨y1,?_⟩;rw [qai oo] at C;simp [C]
def zui (l:List ByteArray) (s:ByteArray):List ByteArray:=if s∈l then l else l++[s]
def zsZ (l:List ByteArray) (s:ByteArray):(zui l s).length<=l.length+1:=by unfold zui;split<;>simp
def readsT:Nat->DTerm->List ByteArray->List ByteArray
 | n,t,l=>if t.kind=2 then zui l t.name else match n with | 0=>l | m+1=>t.kids.foldl (λl k=>readsT m k l) l
def zhF (n:Nat) (t:DTerm) (l:List ByteArray):readsT n t l=if t.kind=2 then zui l t.name else match n with | 0=>l | m+1=>t.kids.foldl (λl k=>readsT m k l) l:=readsT.eq_def n t l
def znn {α β:Type} (f:β->α->β) (b:β) {l:List α} {k:Nat} (hk:k<l.length):(l.take (k+1)).foldl f b=f ((l.take k).foldl f b) l[k]:=by
 rw [tk hk,List.foldl_append];rfl
theorem zim {t:DTerm} (h:zbg n t=true) (h2:¬t.kind=2):t.kids=[]\/∃ m,n=m+1/\t.kids.length<=2/\∀ k∈t.kids,zbg m k=true:=by
 by_cases h1:t.kind=1
 . rw [zes h1] at h;simp only [qap,qau] at h;exact .inl (qaj oo)
 rw [zbD h1 h2] at h;simp only [qap,qau] at h;obtain ⟨⟨_,h3⟩,h4⟩:=h;cases n with
 | zero=>simp at h4
 | succ m=>
   refine .inr ⟨m,rfl,?_,λk hk=>qaH.1 h4 k hk⟩;split at h3<;>omega
theorem zjE:∀ (n:Nat) (t:DTerm) (l:List ByteArray),zbg n t=true->(readsT n t l).length<=l.length+2^n
 | n,t,l,h=>by
   rw [zhF];have:1<=2^n:=qb7;split
   . have:=zsZ l t.name;omega
   rename_i h2;rcases zim h h2 with hk | ⟨m,rfl,hk,hall⟩
   . cases n with
     | zero=>simp
     | succ m=>simp [hk]
   show (t.kids.foldl (λl k=>readsT m k l) l).length<=_
   have key:∀ (ks:List DTerm) (l:List ByteArray),(∀ k∈ks,zbg m k=true)->(ks.foldl (λl k=>readsT m k l) l).length<=l.length+ks.length*2^m:=by
     intro ks
     induction ks with
     | nil=>intro l _;simp
     | cons k ks ih=>
       intro l g0;rw [qbQ,qam,qbu,qbY];have h1:=ih (readsT m k l) λx hx=>g0 x (by simp [hx]);have h2:=zjE m k l (g0 k ss);omega
   have h1:=key t.kids l hall;have h2:t.kids.length*2^m<=2*2^m:=qa6 _ hk;rw [qc2];omega
def zs0 {l:List ByteArray} {K:VW} (hr:RowF F 9 w v l) (hn:F.Nodup) (hs:s.size<=maxLen) (hl:l.length<=1000000)
   (k:∀ v' w',Chg F w w'->(∃ F',RowF F' 9 w' v' (l++[s])/\F'.Nodup/\∀ b∈F',b∈F\/w.heap.size<=b)->K v' w') :
   OP tp (Instr.buildSlice 26 1 #[(0,.string s)]) w λx w1=>OP tp (Builtin.append_ #[26,26] ty [v,x].toArray) w1 K:=by
 refine ziR (α:=ByteArray) (x:=s) (F:=[]) u26 ty9 z9 dD ⟨⟨_,⟨rfl,rfl,hs⟩,rfl⟩,qas,Wr.nil _⟩ λw1 g0 g2=>?_;obtain ⟨_,_,Fi,xs,he,_,_,hc,h4⟩:=zdU g2.is;have g3:=Cells.flat (xs:=xs) hc;subst g3;refine ziJ (α:=ByteArray) (m:=[s]) u26 ty9 zc9 (hr.ext g0) hn he hc (.inr ?_) (Wr.nil _) (by simpa using hn) (by simp only [qam,qaI,zak];omega) (by simp only [qam,qaI];omega) λv' w' F' g4 _ g5 g9 gb=>?_
 . rcases h4 with h4 | ⟨b,o,ha,gc,_⟩
   . simp at h4
   exact ⟨b,o,ha,gc⟩
 have g1:∀ c∈v.ownBlock.toList,c∈F:=λc hc=>by
   obtain ⟨xs,Fi,_,_,rfl,_⟩:=hr;simp only [qae];exact .inl hc
 refine k v' w' ((Ext.chg F g0).trans (g4.mono g1)) ⟨F',g5,g9,λb hb=>?_⟩;rcases gb b hb with h | h | h
 . exact .inl h
 . simp at h
 exact .inr (qal g0.size h)
def zno {l:List ByteArray} (hr:RowF F 9 w v l) (hn:F.Nodup) (hs:s.size<=maxLen) (hl:l.length<=1000000) :
   CALL tp 134 [v,.string s] w λr w'=>Chg F w w'/\∃ F',RowF F' 9 w' r (zui l s)/\F'.Nodup/\∀ b∈F',b∈F\/w.heap.size<=b:=by
 refine co (g:=kf [] [] []) Tryz.func134 ?_;refine (zcb hr.own.is (xrf w)).mono ?_;rintro _ _ ⟨C,rfl⟩;refine br (λc1=>?_) (λc1=>?_)
 . exact ⟨Ext.chg F C,F,by unfold zui;rw [qah c1];exact hr.ext C,hn,λb hb=>.inl hb⟩
 refine zs0 (hr.ext C) hn hs hl λ_ w' hc ⟨F',h1,h2,h3⟩=>⟨(Ext.chg F C).trans hc,F',by unfold zui;rw [qad c1];exact h1,h2,λb hb=>?_⟩;rcases h3 b hb with h | h
 . exact .inl h
 exact .inr (qal C.size h)
def zoy (F:List Nat) (w:wD) (l:List ByteArray) (r:vL) (w':wD):Prop:=Chg F w w'/\∃ F',RowF F' 9 w' r l/\F'.Nodup/\∀ b∈F',b∈F\/w.heap.size<=b
def zEJ (n:Nat):Prop:=∀ {w W:wD} {v u:vL} {t:DTerm} {l:List ByteArray} {F:List Nat},Is W v t->Ext W w->RowF F 9 w u l->F.Nodup->(∀ b∈F,W.heap.size<=b)->zbg n t=true->l.length+2^n<=1000 ->
 CALL tp 205 [u,v] w (zoy F w (readsT n t l))
def zEK (n:Nat):Prop:=∀ {w W:wD} {v u:vL} {t:DTerm} {l:List ByteArray} {F:List Nat},Is W v t->Ext W w->RowF F 9 w u l->F.Nodup->(∀ b∈F,W.heap.size<=b)->zbg n t=true->l.length+2^n<=1000 ->
 CALL tp 231 [v,u] w (zoy F w (readsT n t l))
def zoz {t:DTerm} {l:List ByteArray} (h:t.kind=2):readsT n t l=zui l t.name:=by rw [zhF,qah h]
def zlE {t:DTerm} {l:List ByteArray} (h:zbg n t=true) (h2:¬t.kind=2) (hl:l.length+2^n<=1000) :
   ∃ m,(t.kids=[]\/n=m+1)/\readsT n t l=t.kids.foldl (λl k=>readsT m k l) l/\(∀ k∈t.kids,zbg m k=true)/\∀ k,k<t.kids.length->((t.kids.take k).foldl (λl k=>readsT m k l) l).length+2^m<=1000:=by
 rcases zim h h2 with hk | ⟨m,rfl,hk,g0⟩
 . refine ⟨0,.inl hk,?_,by simp [hk],by simp [hk]⟩;rw [zhF,qad h2,hk];cases n<;>rfl
 refine ⟨m,.inr rfl,by rw [zhF,qad h2],g0,λk _=>?_⟩;rw [qc2] at hl
 have g2:∀ (ks:List DTerm) (l:List ByteArray),(∀ k∈ks,zbg m k=true)->(ks.foldl (λl k=>readsT m k l) l).length<=l.length+ks.length*2^m:=by
   intro ks
   induction ks with
   | nil=>intro l _;simp
   | cons k ks ih=>
     intro l g1;rw [qbQ,qam,qbu,qbY];have h1:=ih (readsT m k l) λx hx=>g1 x (by simp [hx]);have h2:=zjE m k l (g1 k ss);omega
 have h1:=g2 (t.kids.take k) l λx hx=>g0 x (qcf hx);have h3:(t.kids.take k).length<=1:=by simp;omega
 have:(t.kids.take k).length*2^m<=1*2^m:=qa6 _ h3;omega
def zs1 {t:DTerm} (h:AtB W w b o t):AtB W w b (o+3) t.kids:=by
 have h':AtB W w b o t.tup:=by obtain ⟨F,cs,hr,ha⟩:=h;exact ⟨F,cs,zig.1 hr,ha⟩
 exact h'.snd.snd.snd
def zoA (ih:∀ m,m+1=n->zEJ m):zEJ n:=by
 intro w W _ u t l F h e hr hn hF ht hl;refine co (g:=kf [] [(4,33423425,[0,17])] []) Tryz.func205 ?_;refine za2 zcD rfl h e λw1 M hA hV=>zaa zfw<|zad ty3 (zcI hA) (xrf w1) λ_=>zag<|br (λc1=>?_) (λc1=>?_)
 . refine zaa zfx ?_;refine zaq ty9 (zb1 hA) (xrf w1) λhS=>?_;have:1<=2^n:=qb7;refine (zno (hr.ext M) hn hS oo).mono ?_;rintro r w2 ⟨hc,F',h1,h2,h3⟩;refine ⟨(Ext.chg F M).trans hc,F',by rw [zoz c1];exact h1,h2,λb hb=>?_⟩;rcases h3 b hb with h | h
   . exact .inl h
   exact .inr (qal M.size h)
 obtain ⟨m,hm,he,gg,g1⟩:=zlE ht c1 hl;refine zaa zcr<|zbd ziM (zs1 (zcV h hV rfl)) (e.trans M) (xrf w1) λ_ g2=>zae u65 g2 ?_;have:=zan g2;refine zar t.kids.length (λk us w'=>∃ q,us=[q,.int .i64 (k:Int)]/\zoy F w ((t.kids.take k).foldl (λl k=>readsT m k l) l) q w') 0 (z0 _) ⟨u,rfl,Ext.chg F M,F,by simpa using hr.ext M,hn,λb hb=>.inl hb⟩ ?_;rintro k mm _ w2 _ ⟨q,hu,C,F2,g3,gb,g0⟩;obtain ⟨gh,gi⟩:=zcv hu;try rw [gh]
 try rw [gi]
 have gj:∀ b∈F2,W.heap.size<=b:=λb hb=>by
   rcases g0 b hb with h | h
   . exact hF b h
   exact qal e.size h
 have g4:Ext W w2:=e.chg_trans C hF;refine zah<|br (λc2=>?_) (λc2=>?_)
 . have hk:k<t.kids.length:=oo
   obtain ⟨m',rfl⟩:∃ m',n=m'+1:=by
     rcases hm with h | h
     . rw [h] at hk;simp at hk
     exact ⟨m,h⟩
   have gl:m'=m:=by
     rcases hm with h | h
     . rw [h] at hk;simp at hk
     omega
   subst gl;refine zac u65 zcD g2 hk λb _ gn=>zab zcD gn g4 λ_ gc=>zbN zri rfl zcD rfl gc g4 λw3 D _ gp=>zcC gp (xrf w3) ?_;refine (ih m' rfl gc (g4.t D) (g3.ext D) gb gj (gg _ (qac hk)) (g1 k hk)).mono ?_;rintro r _ ⟨O,F4,gq,gr,gs⟩;refine zaw<|⟨mm-1,oo,k+1,oo,r,rfl,?_⟩;refine ⟨?_,F4,by rw [znn _ _ hk];exact gq,gr,λb hb=>?_⟩
   . -- the blocks of F alone have g5
     refine ⟨O.os.trans (D.os.trans C.os),O.tape.trans (D.tape.trans C.tape),O.output.trans (D.output.trans C.output),qal C.size (qal D.size O.size),λb hb gd=>?_⟩;have gf:b<w2.heap.size:=qan hb C.size
     have g9:b∉F2:=λhm=>by
       rcases g0 b hm with h | h
       . exact gd h
       omega
     rw [O.block b (qan gf D.size) g9,D.heap gf,C.block b hb gd]
   rcases gs b hb with h | h
   . exact g0 b h
   have:=D.size;have:=C.size;exact .inr oo
 rw [qai oo,<-he] at g3;exact ⟨C,F2,g3,gb,g0⟩
theorem zlF:∀ n,zEJ n
  | n=>zoA λm hm=>zlF m
termination_by n=>n
decreasing_by omega
def zoB (ih:∀ m,m+1=n->zEK m):zEK n:=by
 intro w W _ u t l F h e hr hn hF ht hl;refine co (g:=kf [] [(3,16776240,[5]),(9,8795556151362,[1,6])] [(5,[0,1,2,3,4,5,6],0)]) Tryz.func231 ?_;have g0:=zan hr.own.is;have:1<=2^n:=qb7;refine za2 zcD rfl h e λw1 D hA hV=>?_;have gg:w.heap.size<w1.heap.size:=hV.lt;have gh:w.heap.size∉F:=λhm=>by have:=hr.lt _ hm;omega
 refine zaa zfw<|zad ty3 (zcI hA) (xrf w1) λ_=>zag<|br (λc1=>?_) (λc1=>?_)
 . have g1:=hr.ext D;refine zar l.length (λk us w'=>us=[.int .i64 (k:Int)]/\Ext w1 w'/\t.name∉l.take k) 0 (z0 _) ⟨rfl,xrf w1,ss⟩ ?_;rintro k mm uu w2 gi ⟨hu,O,M⟩;try replace hu:=zbv hu
   rw [hu];refine zae u26 g1.own.is<|zah<|br (λc2=>?_) (λc2=>?_)
   . have hk:k<l.length:=oo;have U:=O.t (zai w2);refine zac u26 ty9 g1.own.is hk λb o g4=>zaq ty9 g4 U λ_=>zaa zfx<|zaq ty9 (zb1 hA) U λ_=>zat<|br (λc3=>?_) (λc3=>?_)
     . have hm:t.name∈l:=c3▸qac hk;refine ⟨Ext.chg F (D.t U),F,?_,hn,λb hb=>.inl hb⟩;rw [zoz c1,zui,qah hm];exact g1.ext U
     refine zaw<|⟨mm-1,oo,k+1,oo,rfl,U,zdB hk M c3⟩
   rw [qai oo] at M;have U:=O.t (zai w2)
   first
     | refine zaa zfx ?_
     | skip
   refine zaq ty9 (zb1 hA) O λhS=>zs0 (g1.ext O) hn hS oo λ_ w' hc ⟨F',h1,h2,h3⟩=>⟨(Ext.chg F (D.t O)).trans hc,F',by rw [zoz c1,zui,qad M];exact h1,h2,λb hb=>?_⟩;rcases h3 b hb with h | h
   . exact .inl h
   exact .inr (qal (D.t O).size h)
 obtain ⟨m,hm,he,gj,g0⟩:=zlE ht c1 hl;refine zar t.kids.length (λk us w'=>∃ q,us=[q,.int .i64 (k:Int)]/\zoy F w1 ((t.kids.take k).foldl (λl k=>readsT m k l) l) q w') 0 (z0 _) ⟨u,rfl,Chg.refl F w1,F,by simpa using hr.ext D,hn,λb hb=>.inl hb⟩ ?_;rintro k mm uu w2 gi ⟨q,hu,C,F2,g5,gb,g2⟩;obtain ⟨gl,gn⟩:=zcv hu;try rw [gl]
 try rw [gn]
 have gp:∀ b∈F2,W.heap.size<=b:=λb hb=>by
   rcases g2 b hb with h | h
   . exact hF b h
   have:=e.size;have:=D.size;omega
 have g3:Ext W w2:=(e.trans D).chg_trans C hF;have gc:AtB W w2 w.heap.size 0 t:=(zcV h hV rfl).keep (C.block _ gg gh);have g4:=gc.at g3;refine zaa zcr<|zab ziM (za7 g4) (xrf w2) λ_ gd=>zae u65 gd ?_;have:=zan gd;refine zah<|br (λc2=>?_) (λc2=>?_)
 . have hk:k<t.kids.length:=oo
   obtain ⟨m',rfl⟩:∃ m',n=m'+1:=by
     rcases hm with h | h
     . rw [h] at hk;simp at hk
     exact ⟨m,h⟩
   have gq:m'=m:=by
     rcases hm with h | h
     . rw [h] at hk;simp at hk
     omega
   subst gq;refine zaa zcr<|zbd ziM (zs1 gc) g3 (xrf w2) λ_ gr=>zac u65 zcD gr hk λb o gs=>zab zcD gs g3 λ_ gt=>?_;refine (ih m' rfl gt g3 g5 gb gp (gj _ (qac hk)) (g0 k hk)).mono ?_;rintro r _ ⟨V,F4,gx,gy,gz⟩;refine zaw<|⟨mm-1,oo,k+1,oo,r,rfl,?_⟩;refine ⟨?_,F4,by rw [znn _ _ hk];exact gx,gy,λb hb=>?_⟩
   . refine ⟨V.os.trans C.os,V.tape.trans C.tape,V.output.trans C.output,qal C.size V.size,λb hb gf=>?_⟩;have gA:b<w2.heap.size:=qan hb C.size
     have g9:b∉F2:=λhm=>by
       rcases g2 b hm with h | h
       . exact gf h
       omega
     rw [V.block b gA g9,C.block b hb gf]
   rcases gz b hb with h | h
   . exact g2 b h
   have:=C.size;exact .inr oo
 rw [qai oo,<-he] at g5;refine ⟨(Ext.chg F D).trans C,F2,g5,gb,λb hb=>?_⟩;rcases g2 b hb with h | h
 . exact .inl h
 exact .inr (qal D.size h)
theorem zlG:∀ n,zEK n
  | n=>zoB λm hm=>zlG m
termination_by n=>n
decreasing_by omega
def zbf (t:DTerm):List ByteArray:=if zbg 6 t=true then readsT 6 t [] else []
def zlH (t:DTerm):(zbf t).length<=64:=by
 unfold zbf;split
 . have:=zjE 6 t [] (by assumption);simpa using this
 simp
def zs2 {α:Type} [Rep α] (e:TypeId) (w:wD):RowF (α:=α) [] e w (.slice none 0 0) []:=⟨[],[],⟨ss,.inl ⟨rfl,rfl⟩⟩,⟨rfl,rfl⟩,rfl,Wr.nil _⟩
def zhg {t:DTerm} (h:Is W v t) (e:Ext W w):CALL tp 137 [v] w λr w'=>Ext w w'/\Own w.heap.size w' r (zbf t):=by
 refine co (g:=kf [] [] []) Tryz.func137 ?_;refine za2 zcD rfl h e λw1 C _ hV=>zcC hV (xrf w1) ?_;refine (zdp h (e.trans C)).mono ?_;rintro _ _ ⟨D,rfl⟩;refine zau<|zaN (λc=>?_) (λc=>?_)
 . refine ⟨C.t D,?_⟩;unfold zbf;rw [qad (by simpa using c)];exact zk8 rfl
 have c:zbg 6 t=true:=by simpa using c
 refine zcC hV D ?_;refine (zlF 6 h ((e.trans C).trans D) (zs2 _ _) qas ss c dD).mono ?_;rintro r _ ⟨hc,F',hr,hn,hs⟩;refine ⟨(C.t D).trans (Chg.ext hc),?_⟩;unfold zbf;rw [qah c];exact ⟨F',⟨hr.own,hn,hr.wr⟩,λb hb=>(hs b hb).elim (λh=>by cases h) λh=>qal (C.t D).size h⟩
def zfU {t:DTerm} (h:Is W v t) (e:Ext W w):CALL tp 137 [v] w λr w'=>Ext w w'/\Is w' r (zbf t):=(zhg h e).mono λr w' h=>⟨h.1,h.2.is⟩
def zhh {t:DTerm} (h:Is W v t) (e:Ext W w):CALL tp 171 [v] w λr w'=>Ext w w'/\Own w.heap.size w' r (zbf t):=by
 refine co (g:=kf [] [] []) Tryz.func171 ?_;refine za2 zcD rfl h e λw1 g0 _ hV=>zcC hV (xrf w1) ?_;refine (zdq h (e.trans g0)).mono ?_;rintro _ _ ⟨g1,rfl⟩;refine zau<|zaN (λc=>?_) (λc=>?_)
 . refine ziI (α:=ByteArray) u26 ty9 λa w3 D g2=>?_;refine ⟨(g0.t g1).trans D,?_⟩;unfold zbf;rw [qad (by simpa using c)];exact g2.toI.own.own.mono (qal g0.size g1.size)
 have c:zbg 6 t=true:=by simpa using c
 refine zcC hV g1<|ziI (α:=ByteArray) u26 ty9 λa w3 D g2=>?_;obtain ⟨_,hr,hn,hl⟩:=g2;have C:=(g0.t g1);refine (zlG 6 h ((e.trans C).trans D) hr hn (λb hb=>qal (e.trans C).size (hl b hb)) c dD).mono ?_;rintro r _ ⟨hc,F',g3,g4,g5⟩;refine ⟨(C.t D).chg_trans hc (λb hb=>qal C.size (hl b hb)),?_⟩;unfold zbf;rw [qah c];exact ⟨F',⟨g3.own,g4,g3.wr⟩,λb hb=>(g5 b hb).elim (λh=>qal C.size (hl b h)) λh=>qal (C.t D).size h⟩
def zfV {t:DTerm} (h:Is W v t) (e:Ext W w):CALL tp 171 [v] w λr w'=>Ext w w'/\Is w' r (zbf t):=(zhh h e).mono λr w' h=>⟨h.1,h.2.is⟩
mutual
def wT:DTerm->Nat
  | .mk _ _ s ks=>s.size+wTs ks
def wTs:List DTerm->Nat
  | []=>0
  | t :: r=>1+wT t+wTs r
end
theorem zpU (l:List DTerm):wTs l=l.length+sm wT l:=by
 induction l with
 | nil=>simp [wTs,sm]
 | cons t l ih=>rw [wTs,ih];simp [sm];omega
def zwt (t:DTerm):wT t=t.name.size+wTs t.kids:=by cases t;rw [wT];rfl
end Go.Proofs.YtkgiigmcbgifdaaGreatDoor
