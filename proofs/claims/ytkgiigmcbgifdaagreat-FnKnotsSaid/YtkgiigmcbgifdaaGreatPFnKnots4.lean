/-
  Parts of the proof, put together by program.
-/
import Derived.Test.YtkgiigmcbgifdaaGreatPFnKnots3
set_option maxRecDepth 20000
set_option linter.defProp false
set_option linter.unusedVariables false
set_option linter.unusedSimpArgs false
set_option linter.unusedSectionVars false
open Go renaming Value→vL,World→wD,Program→pG
namespace Go.Sh
open Rep (rep)
structure Raw where
 v:vL
instance:Rep Raw where
 size:=1
 agg:=false
 rep F _ cs x:=F=[]/\cs=[x.v]/\x.v.oneCell'=true
 pos:=by decide
 sz _:=rfl
 len:=by rintro _ _ _ _ ⟨_,rfl,_⟩;rfl
 one:=by rintro _ _ _ _ ⟨_,rfl,h⟩ v hv;simp at hv;subst hv;exact h
 keep:=by rintro _ _ _ _ _ h _;exact h
 lt:=by rintro _ _ _ _ ⟨rfl,_⟩ b hb;cases hb
section
variable {P:pG} {w w0 w' w1:wD} {α β γ:Type} [Rep α] [Rep β] {e lo hi:Nat} {v:vL} {F G S:List Nat} {b o g:Nat}
def ChgAt.ext_left {n:Nat} (hx:Ext w w1) (h:ChgAt b o n G w1 w'):ChgAt b o n G w w':=
 ⟨(hx.chg _).trans h.chg,λc e hc=>h.cell c e (by rw [hx.heap (Array.getElem?_eq_some_iff.1 hc).1];exact hc)⟩
def OAt.ext {x:α} (h:OAt G w b o x) (hx:Ext w w1):OAt G w1 b o x:=h.keep λc hc=>hx.heap (h.lts c hc)
def Lens.ext {H:List Nat->wD->γ->Prop} {y:β} {upd:β->γ} (h:Lens H S w b o G y upd) (hx:Ext w w1):Lens H S w1 b o G y upd:=
 ⟨h.here.ext hx,h.sub,λw' G' y' hch hO hs=>h.back w' G' y' (hch.ext_left hx) hO hs⟩
def zcN {ft by_:Nat} {u:vL} {K:vL->Prop} (g1:tyI P ft=some (1,by_,false)) (hr:w.rangeAt b o [u]) (k:K u):RD P (Instr.loadAt ft (.pointer (some ⟨b,o,none⟩))) w K:=by
 refine zba (λw' g0=>?_) k;have h0:w'.cell? ⟨b,o,none⟩=some u:=by simpa using (zbQ hr g0) 0 u rfl
 have hA:=zca g1 w';simp [Instr.loadAt,Instr.sureAddr,loadVar,hA,h0]
def zlu {t by_:Nat} {u old:vL} {K:wD->Prop} (ht:tyI P t=some (1,by_,false)) (hw:∃ c e,w.heap[b]?=some (.cells c e (0,0))) (hr:w.rangeAt b o [old]) (ho:old.oneCell'=true) (hu:u.oneCell'=true)
   (k:∀ w',ChgAt b o 1 [] w w'->w'.rangeAt b o [u]->K w'):OPU P (Instr.storeAt t (.pointer (some ⟨b,o,none⟩)) u) w K:=by
 refine zuf (β:=Raw) (G:=[]) (y:=⟨old⟩) (y':=⟨u⟩) (G':=[]) ht ⟨[old],⟨rfl,rfl,ho⟩,hr,qav,Wr.nil w,sS,hw⟩ ⟨[u],⟨rfl,rfl,hu⟩,rfl⟩ qav (Wr.nil w) sS λw' hc hO=>k w' hc ?_;obtain ⟨_,⟨_,rfl,_⟩,g0,_⟩:=hO;exact g0
def zuJ {t by_:Nat} {y y':β} {upd:β->α} {u:vL} {K:wD->Prop} (ht:tyI P t=some (Rep.size β,by_,Rep.agg β)) (hL:Lens (VH g) (g :: F) w b o G y upd) (hF:∀ b∈F,lo<=b/\b<hi) (hg:hi<=g) (hlo:lo<=g) (hu:Mine [] w u y')
   (k:∀ w',ChgI lo (g+1) w w'->VarI lo hi w' g (upd y')->K w'):OPU P (Instr.storeAt t (.pointer (some ⟨b,o,none⟩)) u) w K:=by
 refine zjh ht hL hu sS λw' hc ⟨F',h1,h2⟩=>k w' (hc.toI λc r=>?_) ⟨F',h1,λc r=>?_⟩
 . rcases qaa.1 r with rfl | r
   . omega
   have:=hF c r;omega
 rcases h2 c r with h | h
 . rcases qaa.1 h with rfl | h
   . obtain ⟨_,_,_,_,_,hn,_⟩:=h1;exact absurd r hn
   exact hF c h
 simp at h
def zf0 {t by_:Nat} {y y':β} {upd:β->α} {u:vL} {K:wD->Prop} (ht:tyI P t=some (Rep.size β,by_,Rep.agg β)) (hL:Lens (VH g) (g :: F) w b o G y upd) (hF:∀ b∈F,lo<=b/\b<hi) (hg:lo<=g/\g<hi) (hu:Mine [] w u y')
   (k:∀ w',ChgI lo hi w w'->VarI lo hi w' g (upd y')->K w'):OPU P (Instr.storeAt t (.pointer (some ⟨b,o,none⟩)) u) w K:=by
 refine zjh ht hL hu sS λw' hc ⟨F',h1,h2⟩=>k w' (hc.toI λc r=>?_) ⟨F',h1,λc r=>?_⟩
 . rcases qaa.1 r with rfl | r
   . exact hg
   exact hF c r
 rcases h2 c r with h | h
 . rcases qaa.1 h with rfl | h
   . obtain ⟨_,_,_,_,_,hn,_⟩:=h1;exact absurd r hn
   exact hF c h
 simp at h
def VarI.mono {lo' hi':Nat} {x:α} (h:VarI lo hi w g x) (h1:lo'<=lo) (h2:hi<=hi'):VarI lo' hi' w g x:=by
 obtain ⟨F,h,hF⟩:=h;exact ⟨F,h,λb hb=>by have:=hF b hb;omega⟩
theorem zuK:∀ {l:List (RV α e)} {F:List Nat} {xs:List vL},Cells F w xs l->Cells F w xs (l.map RV.l)
 | [],_,_,h=>h
 | x :: l,_,_,⟨F1,F2,c1,c2,hF,h,⟨hc,h1⟩,h2⟩=>by
   obtain ⟨cs,hr,hv⟩:=h1.own
   have:cs=[x.v]:=by
     obtain ⟨_,_,_,xs,rfl,_⟩:=hr;rw [hv];rfl
   subst this;exact ⟨F1,F2,c1,c2,hF,h,by rw [hc];exact hr,zuK h2⟩
def zGv {e2:TypeId} {cs:List vL} {x:RV (RV α e) e2} (h:rep F w cs x):rep F w cs (x.l.map RV.l):=by
 obtain ⟨rfl,h⟩:=h;obtain ⟨cs,⟨a,cap,Fi,xs,rfl,h1,h2,hc,h4⟩,hv⟩:=h.own;have g0:x.v=.slice a x.l.length cap:=hv;rw [g0];refine ⟨a,cap,Fi,xs,sS,by simpa using h1,h2,zuK hc,?_⟩;rcases h4 with ⟨h4,h5⟩ | h4
 . exact .inl ⟨by simp [h4],h5⟩
 exact .inr h4
def zdU {t ty:TypeId} {by_:Nat} {u:vL} {x:β} {l:List β} {GX:List Nat} {K:wD->vL->wD->Prop} {C:vL->wD->Prop} (ht:P.underlying t=some (.slice e)) (he:tyI P e=some (Rep.size β,by_,Rep.agg β)) (hz:zbZ P e=true)
   (gd:(P.info? e).map (λi=>(i.zero.map (·.cells.size)))=some (some (Rep.size β))) (gf:Rep.size β<=1000) (hv:RowG G e w v l) (hn:G.Nodup) (hx:Mine GX w u x) (hd:∀ c∈GX,c∉G) (hm:l.length+1<=maxLen) (hb:(l.length+1)*by_<=140737488355328)
   (k:∀ w1 v' w' G',Ext w w1->Chg G w1 w'->RowG G' e w' v' (l++[x])->G'.Nodup->(∀ c∈G',c∈G\/c∈GX\/w.heap.size<=c)->K w1 v' w')
   (hC:∀ s w1,Ext w w1->OP P (Builtin.append_ #[t,t] ty [v,s].toArray) w1 (K w1)->C s w1):OP P (Instr.buildSlice t 1 #[(0,u)]) w C:=by
 refine zjo ht he hz gf hx λw1 g1 gg=>?_;obtain ⟨⟨_,⟨_,_,Fi,xs,rfl,_,_,hc,h4⟩,g0⟩,_,gh⟩:=gg;simp only [mkv,Rep.agg,cond_false,qbd,Value.slice.injEq,qak,qaC] at g0;obtain ⟨rfl,_,rfl⟩:=g0;rcases h4 with ⟨h4,_⟩ | ⟨b,o,g2,g5,g9,_⟩
 . simp at h4
 simp only [qbk] at g5;obtain ⟨_,rfl⟩:=g5;refine hC _ w1 g1 ?_
 have gb:∀ (v:vL) (F:List Nat),RowF F e w v l->F.Nodup->(∀ c∈F,c∈G)->OP P (Builtin.append_ #[t,t] ty [v,.slice (some ⟨w.heap.size,0,none⟩) 1 1].toArray) w1 (K w1):=by
   intro v F hF gc g3;have gi:=hF.ext g1
   have gj:(GX++F).Nodup:=by
     rw [qas];exact ⟨hx.nodup,gc,λp hp _ hq e=>hd p hp (g3 _ (e▸hq))⟩
   refine zfD (m:=[x]) ht he gd gi gc rfl hc (.inr ⟨b,o,g2,g9⟩) (gh.sub sc) gj (by simpa using hm) (by simpa using hb) λv' w' F' gl _ gp gq gr=>?_
   have g4:∀ c∈v.ownBlock.toList,c∈G:=λc hc=>by
     obtain ⟨xs,Fi,_,_,rfl,_⟩:=hF;exact g3 c (by simp only [qae];exact .inl hc)
   refine k w1 v' w' F' g1 (gl.mono g4) (.inr gp) gq λc hc=>?_;rcases gr c hc with h | h | h
   . exact .inl (g3 c h)
   . exact .inr (.inl h)
   exact .inr (.inr (qat g1.size h))
 rcases hv with ⟨a0,rfl,rfl,rfl⟩ | hF
 . have kn:=gb (.slice none 0 0) [] (zho e w) qav sS;cases a0 with
   | none=>exact kn
   | some x0=>
     simp only [qao,Addr.mk.injEq] at g2;obtain ⟨rfl,rfl,_⟩:=g2;exact zjn (zfF (α:=β) (n:=1) ht he gd (by simpa using Cells.len hc) g9 oo (by rw [zaj];omega) (by simpa using hb)) kn
 exact gb v G hF hn (λ_ h=>h)
def zgy {t by_:Nat} {x:RV β e} {upd:RV β e->α} {w2:wD} {v':vL} {l':List β} {G':List Nat} {K:wD->Prop} (ht:tyI P t=some (1,by_,false)) (hL:Lens (VH g) (g :: F) w b o G x upd) (gb:∀ c∈g :: F,c<w.heap.size) (hc:Chg G w w2)
   (hR:RowG G' e w2 v' l') (hN:G'.Nodup) (hs:∀ c∈G',c∈G\/w.heap.size<=c)
   (k:∀ w3,Chg (b :: G) w w3->(∃ F',OAt F' w3 g 0 (upd ⟨v',l'⟩)/\∀ c∈F',c∈g :: F\/w.heap.size<=c)->K w3):OPU P (Instr.storeAt t (.pointer (some ⟨b,o,none⟩)) v') w2 K:=by
 obtain ⟨_,⟨rfl,g4⟩,hr,_,_,hb,gc⟩:=hL.here;have gd:b<w.heap.size:=gb b (hL.sub b sS);have g5:w2.heap[b]?=w.heap[b]?:=hc.block b gd hb;have g0:∃ c e,w2.heap[b]?=some (.cells c e (0,0)):=by obtain ⟨c,e,h⟩:=gc;exact ⟨c,e,by rw [g5];exact h⟩
 have g1:b∉G':=λhm=>by
   rcases hs b hm with h | h
   . exact hb h
   omega
 refine zlu ht g0 (zbo hr g5) g4.one hR.one λw3 g3 gf=>?_
 have g2:ChgAt b o 1 G w w3:=by
   refine ⟨(hc.mono sc).trans (g3.chg.mono sc),λc e gg=>?_⟩;obtain ⟨c',h1,h2⟩:=g3.cell c e (by rw [g5];exact gg);exact ⟨c',h1,h2⟩
 have r:∀ c∈G',w3.heap[c]?=w2.heap[c]?:=λc C=>g3.chg.block c (hR.lt c C) (by simp;exact λe=>g1 (e▸C));obtain ⟨c',e',gh⟩:=g0;obtain ⟨gi,g9,_⟩:=g3.cell c' e' gh
 obtain ⟨F',h1,h2⟩:=hL.back w3 G' ⟨v',l'⟩ g2 ⟨[v'],⟨rfl,hR.keep r⟩,gf,hN,(hR.keep r).wr,g1,gi,e',g9⟩ λc C=>by
   rcases hs c C with h | h
   . exact .inl h
   exact .inr λhm=>by have:=gb c hm;omega
 refine k w3 g2.chg ⟨F',h1,λc C=>?_⟩;rcases h2 c C with h | h
 . exact .inl h
 rcases hs c h with h | h
 . exact .inl (hL.sub c (by simp [h]))
 exact .inr h
def zci {t:TypeId} {by_:Nat} {u:vL} {x:β} {K:vL->wD->Prop} (ht:P.underlying t=some (.slice e)) (he:tyI P e=some (Rep.size β,by_,Rep.agg β)) (hz:zbZ P e=true) (hsz:Rep.size β<=1000) (hx:Mine [] w u x)
   (k:∀ v w',Ext w w'->RowI w.heap.size w'.heap.size e w' v [x]->K v w'):OP P (Instr.buildSlice t 1 #[(0,u)]) w K:=by
 obtain ⟨⟨cs,hr,rfl⟩,_,_⟩:=hx;have g1:=ze3 hr;have g0:=Rep.len hr;have g2:(mkv β cs).cells.size=Rep.size β:=by rw [<-qaH,g1,g0]
 obtain ⟨_,_,hi,_,_,_,_⟩:=zdE he;unfold zbZ at hz;rw [hi] at hz;obtain ⟨_,hz⟩:=qbj.1 hz;have:=Rep.pos (α:=β);refine ⟨_,w.alloc (.cells (mkv β cs).cells e),?_,k (.slice (some ⟨w.heap.size,0,none⟩) 1 1) _ (zaX w _) (.inr ⟨[w.heap.size],⟨cs,[],⟨by simp [g0],.inr ⟨w.heap.size,1,(mkv β cs).cells,rfl,z0 _,heap_alloc_new w _,lr _,by rw [zaj];omega,by rw [g2,qbN],?_⟩⟩,Cells.single (zcp hr (zaX w _)),rfl,Wr.nil _⟩,sS,?_⟩)⟩
 . have g3:¬Rep.size β=0:=oo;have g4:¬2^24<Rep.size β:=oo;simp only [Instr.buildSlice,Sem.run_bind,run_underlying ht,Result.andThen_ok,zaJ he,qbN];simp [g4,g3,zeroValue,typeInfo,hi,hz,zpt _ _ _ g2,newRow]
 . rw [g1,qcc,qbN,qaf oo]
 intro _ hb;simp only [qaa,qad,qaq] at hb;subst hb;exact ⟨qaz _,(Array.getElem?_eq_some_iff.1 (heap_alloc_new w _)).1⟩
def Ext.toX {X:Nat->Prop} (h:Ext w w'):ExtX X w w':=⟨h.os,h.tape,h.output,h.size,λb hb _=>h.block b hb⟩
def Chg.toX {X:Nat->Prop} (h:Chg G w w') (hX:∀ c∈G,X c):ExtX X w w':=⟨h.os,h.tape,h.output,h.size,λb hb hn=>h.block b hb λhm=>hn (hX b hm)⟩
def zej {X:Nat->Prop} {m:Sem vL} {K:vL->Prop} (hX:∀ b,X b->w0.heap.size<=b) (hx:Ext w0 w) (h:RD P m w0 K):RDX P X m w K:=by
 obtain ⟨v,h1,h2⟩:=h;exact ⟨v,λw' hw=>h1 w' ⟨hw.os.trans hx.os,hw.tape.trans hx.tape,hw.output.trans hx.output,qat hx.size hw.size,λb hb=>(hw.block b (qap hb hx.size) λg0=>by have:=hX b g0;omega).trans (hx.block b hb)⟩,h2⟩
def zeN {X:Nat->Prop} {t i g0:Nat} {K:vL->Prop} (hf:zdf P t i=some g0) (k:K (.pointer (some ⟨b,o+g0,none⟩))):RDX P X (Instr.fieldAt t (.pointer (some ⟨b,o,none⟩)) i) w K:=by
 obtain ⟨v,h1,h2⟩:=zaa (P:=P) (w:=w) (K:=λv=>∀ w':wD,(Instr.fieldAt t (.pointer (some ⟨b,o,none⟩)) i).run P w'=.ok v w'/\v=.pointer (some ⟨b,o+g0,none⟩)) hf (λw'=>by
   obtain ⟨v,h1,h2⟩:=zaa (P:=P) (w:=w') (b:=b) (o:=o) (K:=λv=>v=.pointer (some ⟨b,o+g0,none⟩)) hf rfl;subst h2;exact ⟨h1 w' (xrf w'),rfl⟩)
 refine ⟨v,λw' _=>(h2 w').1,?_⟩;rw [(h2 w).2];exact k
def zfr {X:Nat->Prop} {ft by_:Nat} {u:vL} {K:vL->Prop} (g1:tyI P ft=some (1,by_,false)) (hr:w.rangeAt b o [u]) (hX:¬X b) (k:K u):RDX P X (Instr.loadAt ft (.pointer (some ⟨b,o,none⟩))) w K:=by
 refine ⟨u,λw' g0=>?_,k⟩;have hb:=zkd hr sS;have h0:w'.cell? ⟨b,o,none⟩=some u:=by simpa using (zbo hr (g0.block b hb hX)) 0 u rfl
 have hA:=zca g1 w';simp [Instr.loadAt,Instr.sureAddr,loadVar,hA,h0]
def zyN {x:Int} (h:At w b o x):w.rangeAt b o [.int .i64 x]:=by
 obtain ⟨_,_,⟨_,rfl,_⟩,hr⟩:=h;exact hr
end
end Go.Sh
namespace Go.Proofs.YtkgiigmcbgifdaaGreat
open Go Go.Sh Go.Proofs
open Rep (rep)
variable {W w w':wD} {k:Nat} {v:vL}
def RdS.chg {g a b:Nat} {L:List DSign} {e:Int} {i left:Nat} (h:RdS W g L v e i left w) (hc:ChgI a b w w') (hg:g<a):RdS W g L v e i left w':=
 ⟨h.is_,h.ext.chgI hc (by have:=h.lo;omega),h.lo,h.blk.keep (hc.block g h.blk.lt (.inl hg)),h.many⟩
def atT (L:List DSign) (i:Nat) (t:ByteArray):Prop:=i<L.length/\sgT L i=t
instance (L:List DSign) (i:Nat) (t:ByteArray):Decidable (atT L i t):=inferInstanceAs (Decidable (i<L.length/\sgT L i=t))
def wordsS:List ByteArray:=[ByteArray.mk #[],ByteArray.mk #[],ByteArray.mk #[105,102],ByteArray.mk #[119,104,105,108,101],ByteArray.mk #[99,97,108,108],ByteArray.mk #[115,112,97,119,110],ByteArray.mk #[108,111,99,107],ByteArray.mk #[117,110,108,111,99,107],ByteArray.mk #[115,107,105,112]]
def zwh (hk:k<9):CALL tp 220 [.int .i64 (k:Int)] w λr w'=>Ext w w'/\r=.string (wordsS[k]'(by simpa [wordsS] using hk)):=by
 refine co (g:=kf [] [] []) Tryz.func220 ?_;refine zfK (l:=wordsS) (vs:=wordsS.map Value.string) u24 ty9 zcA qd kK rfl (λw=>zcH qd) λ_ _ g0 g1=>zad (i:=k) u24 ty9 g1.is (by simpa [wordsS] using hk) λ_ _ hA=>zar ty9 hA (xrf _) λ_=>⟨g0,rfl⟩
def zol (L:List DSign) (i:Nat):Bool:=named L i || decide (atT L i (ByteArray.mk #[99,97,108,108])) || decide (atT L i (ByteArray.mk #[115,112,97,119,110])) || decide (atT L i (ByteArray.mk #[108,111,99,107])) || decide (atT L i (ByteArray.mk #[117,110,108,111,99,107])) || decide (atT L i (ByteArray.mk #[115,107,105,112])) || decide (atT L i (ByteArray.mk #[119,104,105,108,101])) || decide (atT L i (ByteArray.mk #[105,102]))
section
variable {W w:wD} {g:Nat} {L:List DSign} {v:vL} {e:Int} {i left:Nat}
def zrh (h:RdS W g L v e i left w) :
   CALL tp 156 [.pointer (some ⟨g,0,none⟩)] w λr w'=>Ext w w'/\r=.bool (zol L i):=by
 refine co (g:=kf [] [] []) Tryz.func156 ?_;unfold zol;refine (ziP h).mono ?_;rintro _ _ ⟨g0,rfl⟩;refine zbX (λhb=>⟨g0,by rw [hb];rfl⟩) (λhb=>?_);rw [hb];refine (zdI (h.step g0)).mono ?_;rintro _ _ ⟨g1,rfl⟩;have h2:=g0.t g1;refine br (λhc=>⟨h2,by rw [decide_eq_true (show atT L i _ from hc)];rfl⟩) (λc1=>?_);rw [decide_eq_false (show ¬atT L i _ from c1)];refine (zdI (h.step h2)).mono ?_;rintro _ _ ⟨g2,rfl⟩;have h3:=h2.trans g2;refine br (λhc=>⟨h3,by rw [decide_eq_true (show atT L i _ from hc)];rfl⟩) (λc2=>?_);rw [decide_eq_false (show ¬atT L i _ from c2)];refine (zdI (h.step h3)).mono ?_;rintro _ _ ⟨g3,rfl⟩;have h4:=h3.trans g3;refine br (λhc=>⟨h4,by rw [decide_eq_true (show atT L i _ from hc)];rfl⟩) (λc3=>?_);rw [decide_eq_false (show ¬atT L i _ from c3)];refine (zdI (h.step h4)).mono ?_;rintro _ _ ⟨g4,rfl⟩;have h5:=h4.trans g4;refine br (λhc=>⟨h5,by rw [decide_eq_true (show atT L i _ from hc)];rfl⟩) (λc4=>?_);rw [decide_eq_false (show ¬atT L i _ from c4)];refine (zdI (h.step h5)).mono ?_;rintro _ _ ⟨g5,rfl⟩;have h6:=h5.trans g5;refine br (λhc=>⟨h6,by rw [decide_eq_true (show atT L i _ from hc)];rfl⟩) (λc5=>?_);rw [decide_eq_false (show ¬atT L i _ from c5)];refine (zdI (h.step h6)).mono ?_;rintro _ _ ⟨g9,rfl⟩;have h7:=h6.trans g9;refine br (λhc=>⟨h7,by rw [decide_eq_true (show atT L i _ from hc)];rfl⟩) (λc6=>?_);rw [decide_eq_false (show ¬atT L i _ from c6)];refine (zdI (h.step h7)).mono ?_;rintro _ _ ⟨gb,rfl⟩;exact ⟨h7.trans gb,rfl⟩
def zHr:zcu tp 197=some [.int .i64 0,.string nO,.int .i64 0,.int .i64 0,.string nO,.slice none 0 0,.slice none 0 0,.slice none 0 0]:=by kernel_rfl
def stC (k:Int) (s:ByteArray):List vL:=[.int .i64 k,.string s,.int .i64 0,.int .i64 0,.string nO,.slice none 0 0,.slice none 0 0,.slice none 0 0]
def zyO {lo hi:Nat} {k:Int} {s:ByteArray} (hl:lo<=hi) (hk:I64 k) (hs:s.size<=maxLen):OwnI lo hi w (.agg (stC k s).toArray) (DStmt.mk k s term0 [] []):=
 mkS (l0:=lo) (h0:=lo) (l1:=lo) (h1:=lo) (l2:=lo) (h2:=lo) hk hs zfw zb1 zb1 oo oo oo oo oo oo
structure OneS (L:List DSign) (i k:Nat):Prop where
 k4:4<=k
 k7:k<=7
 lt:i+2<L.length
 word:some (sgT L i)=wordsS[k]?
 name:named L (i+1)=true
 semi:sgT L (i+2)=ByteArray.mk #[59]
 size:(sgT L (i+1)).size<=maxLen
def OneS.only {k:Nat} (h:OneS L i k) {j:Nat} (hj:j<9):sgT L i=(wordsS[j]'(by simpa [wordsS] using hj))->j=k:=λe=>by
 have hk:=h.k7;have h4:=h.k4;have hw:=h.word;rw [e,List.getElem?_eq_getElem (by simp [wordsS];omega)] at hw;have hw:=qa0 hw;have key:∀ a b:Fin 9,4<=b.1->b.1<=7->(wordsS[a.1]'(by simp [wordsS]))=(wordsS[b.1]'(by simp [wordsS]))->a=b:=by decide +kernel
 have:=key ⟨j,hj⟩ ⟨k,oo⟩ h4 hk hw;exact qax Fin.val this
def zwi {k room:Nat} (h:RdS W g L v e i left w) (hO:OneS L i k) (hl:1<=left) (hl2:left<=60) (gM:named L i=false) (hg:g<w.heap.size) :
   CALL tp 157 [.pointer (some ⟨g,0,none⟩),.int .i64 (room:Int)] w λr w'=>ChgI g (g+1) w w'/\RdS W g L v e (i+3) (left-1) w'/\OwnI w.heap.size w'.heap.size w' r (DStmt.mk (k:Int) (sgT L (i+1)) term0 [] []):=by
 have hk4:=hO.k4;have hk7:=hO.k7;have hlt:=hO.lt;have hm:=h.many;refine co (g:=kf [(3,32320,[6]),(6,8355840,[]),(33,5191663033234713513829747977617408,[])] [(18,4607182418800017536,[7])] []) Tryz.func157 ?_;refine zeC (α:=DStmt) zv6 λw1 gx gy=>?_;have hs1:=gx.size;have hg4:=gy.lt;refine zaF (cells:=(stC 0 nO).toArray) kK<|zaL zHr λ_ gb gz=>?_;have hs2:=gb.size;have hg5:=gz.lt;refine zaz (α:=DStmt) (lo:=0) (hi:=0) zb6 rfl gz rfl (zyO (lr _) zjv zhs) λw3 gc gJ=>?_;have hs3:=gc.size;have gd:Ext w1 w3:=gb.chgI gc (lr _);have g0:=gx.t gd;have h3:=h.step g0;refine JOIN.mk (λus w'=>us=[.bool false]/\Ext w3 w') ?_ ?_
 . refine (zdI h3).mono ?_;rintro _ _ ⟨gC,rfl⟩;refine br (λhc=>absurd (hO.only (j:=2) oo hc.2) oo) (λ_=>?_);refine (zdI (h3.step gC)).mono ?_;rintro _ _ ⟨gK,rfl⟩;refine ⟨?_,gC.t gK⟩;rw [decide_eq_false (λhc=>absurd (hO.only (j:=3) oo hc.2) oo)]
 rintro _ w4 ⟨gf,X⟩;have hs4:=X.size;try replace gf:=zbv gf
 rw [gf];refine JOIN.mk (λus w'=>us=[]/\Ext w4 w') (zbX (λh=>by cases h) (λ_=>⟨rfl,xrf _⟩)) ?_;rintro _ _ ⟨-,Y⟩;have hs5:=Y.size;have h5:=h3.step (X.t Y);have gD:=gJ.ext (X.t Y);refine NIL.mk rfl<|zaa zpm<|zan ty3 h5.blk rfl<|zai<|br (λh=>absurd h oo) (λ_=>?_);refine NIL.mk rfl<|zaa zpm<|zan ty3 h5.blk rfl<|zbe io<|NIL.mk rfl<|zaa zpm<|za3 (α:=Int) (lo:=0) (hi:=0) ty3 rfl rfl h5.blk (by simp [zge]) (zbI io) λw6 Z gE=>?_;have hs6:=Z.size
 have h6:RdS W g L v e i (left-1) w6:=⟨h.is_,h5.ext.chgI Z h.lo,h.lo,by
   have e1:((left:Int)-1)=((left-1:Nat):Int):=oo;rw [e1] at gE;exact gE,h.many⟩
 have gg:=gD.keep (Z.block _ gD.lt (.inr oo));refine (ziP h6).mono ?_;rintro _ w7 ⟨g1,rfl⟩;have hs7:=g1.size;rw [gM];refine zbX (λh=>by cases h) (λ_=>?_);have h7:=h6.step g1;have gN:=gg.ext g1;have g2:ChgI g (g+1) w w7:=((g0.t (X.t Y)).toI.trans Z).trans g1.toI;refine zap 9 (λj us w'=>us=[.int .i64 (j:Int)]/\2<=j/\ChgI w1.heap.size (w1.heap.size+1) w7 w'/\Blk w1.heap.size 197 w' (stC (if k<j then k else 0) nO)) 2 oo ⟨rfl,lr _,ChgI.refl _,by rw [qab oo];exact gN⟩ ?_;rintro j mj _ _ _ ⟨gh,_,V,g3⟩;try replace gh:=zbv gh
 rw [gh];have hs8:=V.size;have h8:=h7.chg V oo;refine zew<|br (λ_=>?_) (λ_=>?_)
 . have gF:j<9:=oo;refine (zwh gF).mono ?_;rintro _ w9 ⟨gG,rfl⟩;refine (zdI (h8.step gG)).mono ?_;rintro _ gO ⟨gi,rfl⟩;have C:=gG.t gi;refine br (λhc=>?_) (λhc=>?_)
   . have gH:=hO.only gF hc.2;refine zaa zfd<|za3 (α:=Int) (lo:=0) (hi:=0) ty3 rfl rfl (g3.ext C) (by simp [stC]) (zbI io) λgP D gj=>zau<|⟨mj-1,oo,j+1,oo,rfl,oo,(V.trans C.toI).trans D,?_⟩;rw [qah oo,<-gH];exact gj
   have gH:j≠k:=λe=>hc ⟨oo,by
     have:=hO.word;rw [<-e,List.getElem?_eq_getElem (by simp [wordsS];omega)] at this;exact qa0 this⟩
   refine zau<|⟨mj-1,oo,j+1,oo,rfl,oo,V.trans C.toI,?_⟩;have:(if k<j+1 then (k:Int) else 0)=if k<j then (k:Int) else 0:=by split<;>split<;>omega
   rw [this];exact g3.ext C
 rw [qah oo] at g3;refine NIL.mk rfl<|zaa zeF<|zan ty3 h8.blk rfl<|zau<|NIL.mk rfl<|zaa zeF<|za3 (α:=Int) (lo:=0) (hi:=0) ty3 rfl rfl h8.blk (by simp [zge]) (zbI io) λw9 g4 gQ=>?_;have hs9:=g4.size;have h9:RdS W g L v e (i+1) (left-1) w9:=⟨h.is_,h8.ext.chgI g4 h.lo,h.lo,gQ,h.many⟩;have gl:=g3.keep (g4.block _ g3.lt (.inr oo));refine zbX (λh=>by cases h) (λ_=>?_);refine zaa zfd<|zan ty3 gl rfl<|zaT<|br (λ_=>?_) (λh=>absurd (show (k:Int)≠8 by omega) h);refine (zks h9 hO.name).mono ?_;rintro _ gO ⟨I,gR,rfl⟩;have gS:=I.size;have gp:=gl.keep (I.block _ gl.lt (.inr oo));refine zaa zdh<|za3 (α:=ByteArray) (lo:=0) (hi:=0) ty9 rfl rfl gp (by simp [stC]) (zlm hO.size) λgP D g5=>?_;have gU:=D.size;have gV:=gR.chg D oo;refine (zeM gV oo hO.semi).mono ?_;rintro _ g9 ⟨O,gW⟩;have gX:=O.size;have gq:=g5.keep (O.block _ g5.lt (.inr oo));refine zck gq zb6 ?_;have gI:ChgI g (g+1) w g9:=(ChgI.out (((ChgI.out g2 V oo).trans g4).trans I) D oo).trans O;have hs0:=gI.size;have gY:=g2.size
 have gr:VarI w.heap.size w1.heap.size g9 w.heap.size (RepZ.zv:DStmt):=by
   have a1:=(gy.mono (show w.heap.size<=w1.heap.size by omega) (lr _)).ext gb;have a2:=a1.chg gc (.inl oo) (.inl oo);have a3:=(a2.ext (X.t Y)).chg Z (.inr oo) (.inr oo);have a4:=(a3.ext g1).chg V (.inl oo) (.inl oo);have a5:=a4.chg g4 (.inr oo) (.inr oo);have a6:=a5.chg I (.inr oo) (.inr oo);have a7:=a6.chg D (.inl oo) (.inl oo);exact a7.chg O (.inr oo) (.inr oo)
 have gs:OwnI g9.heap.size g9.heap.size g9 (.agg (stC k (sgT L (i+1))).toArray) (DStmt.mk k (sgT L (i+1)) term0 [] []):=zyO (lr _) io hO.size;refine zbH zb6 gr gs (.inl oo) λ_ U gt=>?_;have gZ:=U.size;refine zcR zb6 gt (xrf _) λr hr=>⟨ChgI.out gI U oo,gW.chg U oo,hr.mono oo oo⟩
end
def zqC (L:List DSign) (i:Nat):List Nat->List DStmt
 | []=>[]
 | k :: ks=>DStmt.mk k (sgT L (i+1)) term0 [] [] :: zqC L (i+3) ks
theorem zri (L:List DSign):∀ (ks:List Nat) (i n:Nat) (hn:n<ks.length),zqC L i (ks.take (n+1))=zqC L i (ks.take n)++[DStmt.mk ks[n] (sgT L (i+3*n+1)) term0 [] []]
 | [],_,_,hn=>by simp at hn
 | k :: ks,i,0,_=>by simp [zqC]
 | k :: ks,i,n+1,hn=>by
   have:=zri L ks (i+3) n (by simpa using hn);simp only [qcm,zqC,this,qbz,qc5];rw [show i+3+3*n+1=i+3*(n+1)+1 by omega]
theorem zpL (L:List DSign):∀ (ks:List Nat) (i:Nat),(zqC L i ks).length=ks.length
 | [],_=>rfl
 | k :: ks,i=>by simp [zqC,zpL L ks]
structure RowS (L:List DSign) (i:Nat) (ks:List Nat):Prop where
 one:∀ j (hj:j<ks.length),OneS L (i+3*j) ks[j]
 named:∀ j,j<ks.length->named L (i+3*j)=false
 beg:∀ j,j<ks.length->zol L (i+3*j)=true
 stop:zol L (i+3*ks.length)=false
 many:ks.length<=60
section
variable {W w:wD} {g:Nat} {L:List DSign} {v:vL} {e:Int} {i left:Nat}
def ztm {ks:List Nat} {room:Nat} (h:RdS W g L v e i left w) (hR:RowS L i ks) (hl:ks.length<=left) (hl2:left<=60) (hg:g<w.heap.size) :
   CALL tp 96 [.pointer (some ⟨g,0,none⟩),.int .i64 (room:Int)] w λr w'=>ChgI g (g+1) w w'/\RdS W g L v e (i+3*ks.length) (left-ks.length) w'/\RowI w.heap.size w'.heap.size 197 w' r (zqC L i ks):=by
 have g4:=hR.many;refine co (g:=kf [] [(2,32672,[5])] []) Tryz.func96 ?_;refine zaD (α:=DStmt) zf9 zb6 λ_ w1 g0 _=>?_;have hs1:=g0.size;refine zap ks.length (λn us w'=>∃ out,us=[out]/\n<=ks.length/\ChgI g (g+1) w w'/\w1.heap.size<=w'.heap.size/\RdS W g L v e (i+3*n) (left-n) w'/\RowI w1.heap.size w'.heap.size 197 w' out (zqC L i (ks.take n))) 0 (z0 _) ⟨_,rfl,z0 _,g0.toI,lr _,h.step g0,zcd _ _ _ _ _⟩ ?_;rintro n m _ w2 _ ⟨out,hu,_,g5,_,h2,g1⟩;try replace hu:=zbv hu
 rw [hu];refine (zrh h2).mono ?_;rintro _ w3 ⟨C,rfl⟩;have hs3:=C.size;have h3:=h2.step C;refine zbX (λhb=>?_) (λhb=>?_)
 . have hn:n<ks.length:=by
     rcases qay n ks.length with hn | hn
     . exact hn
     rw [show n=ks.length by omega,hR.stop] at hb;cases hb
   refine (zwi (room:=room) h3 (hR.one n hn) oo oo (hR.named n hn) oo).mono ?_;rintro _ w4 ⟨g2,h4,o4⟩;have hs4:=g2.size;have g9:=(((g1.ext C).chg g2 (.inr oo)).mono (lr _) (show w2.heap.size<=w3.heap.size by omega));have htl:(ks.take n).length<=60:=by rw [qaj];omega
   refine zbM (lo2:=w3.heap.size) (hi2:=w4.heap.size) zf9 zb6 zEr zs9 qd g9 oo o4 (lr _) oo (by rw [zaj,zpL];omega) (by rw [zpL];omega) λv5 _ g3 gb=>?_;have hs5:=g3.size;refine ⟨m-1,oo,n+1,oo,v5,rfl,oo,ChgI.out ((g5.trans C.toI).trans g2) g3 oo,oo,?_,?_⟩
   . have:=h4.chg g3 oo;rw [show i+3*n+3=i+3*(n+1) by omega,show left-n-1=left-(n+1) by omega] at this;exact this
   rw [zri L ks i n hn];exact gb
 have hn:n=ks.length:=by
   rcases qay n ks.length with hn | hn
   . rw [hR.beg n hn] at hb;cases hb
   omega
 rw [hn,qaB] at g1;rw [hn] at h3;exact ⟨g5.trans C.toI,h3,(g1.ext C).mono oo oo⟩
def zmq (L:List DSign) (i:Nat):Nat->List ByteArray
 | 0=>[]
 | n+1=>zmq L i n++[sgT L (i+1+2*n)]
theorem zjw (L:List DSign) (i:Nat):∀ n,(zmq L i n).length=n
 | 0=>rfl
 | n+1=>by rw [zmq,qag,zjw L i n];rfl
structure LstS (L:List DSign) (i n:Nat) (t:ByteArray):Prop where
 word:sgT L i=t
 lt:i+2*n<L.length
 pos:1<=n
 most:n<=6
 name:∀ j,j<n->named L (i+1+2*j)=true
 size:∀ j,j<n->(sgT L (i+1+2*j)).size<=maxLen
 first:sgT L (i+1)≠ByteArray.mk #[59]
 comma:∀ j,1<=j->j<n->sgT L (i+2*j)=ByteArray.mk #[44]
 semi:sgT L (i+2*n)=ByteArray.mk #[59]
def zAQ (i j:Nat):Nat:=if j=0 then i+1 else i+2*j
def zom {n:Nat} {t:ByteArray} (h:RdS W g L v e i left w) (hS:LstS L i n t) (hg:g<w.heap.size) :
   CALL tp 91 [.pointer (some ⟨g,0,none⟩),.string t,.int .i64 6] w λr w'=>ChgI g (g+1) w w'/\RdS W g L v e (i+2*n+1) left w'/\RowI w.heap.size w'.heap.size 9 w' r (zmq L i n):=by
 have g4:=hS.lt;have gd:=hS.pos;have g5:=hS.most;refine co (g:=kf [(6,260046848,[])] [(3,8796093018240,[7])] []) Tryz.func91 ?_;refine zaD (α:=ByteArray) u24 ty9 λ_ w1 g0 _=>?_;have hs1:=g0.size;refine (zeM (h.step g0) oo hS.word).mono ?_;rintro _ _ ⟨g9,h2⟩;have gf:=g9.size;refine zap n (λj us w'=>∃ out,us=[out]/\j<=n/\ChgI g (g+1) w w'/\w1.heap.size<=w'.heap.size/\RdS W g L v e (zAQ i j) left w'/\RowI w1.heap.size w'.heap.size 9 w' out (zmq L i j)) 0 (z0 _) ⟨_,rfl,z0 _,g0.toI.trans g9,gf,h2,zcd _ _ _ _ _⟩ ?_;rintro j m _ _ _ ⟨out,hu,_,gb,_,h3,gg⟩;try replace hu:=zbv hu
 rw [hu];refine NIL.mk rfl<|zaa zl0<|zaa zq3<|zan ty3 h3.blk rfl<|zai<|br (λ_=>?_) (λhn=>absurd rfl hn);refine (zdI h3).mono ?_;rintro _ w4 ⟨I,rfl⟩;have gh:=I.size;have h4:=h3.step I;have O:=(gg.ext I).mono (lr _) gh;refine zav<|br (λgi=>?_) (λD=>?_)
 . have hj:j<n:=by
     rcases qay j n with hj | hj
     . exact hj
     refine absurd ⟨?_,?_⟩ gi
     . unfold zAQ;rw [qab oo,show j=n by omega];exact g4
     unfold zAQ;rw [qab oo,show j=n by omega];exact hS.semi
   have gj:=zak O.is;refine JOIN.mk (λus w'=>us=[]/\ChgI g (g+1) w4 w'/\RdS W g L v e (i+1+2*j) left w') ?_ ?_
   . refine zae u24 O.is ?_;rw [zjw];refine zcO<|br (λ_=>?_) (λ_=>?_)
     . have gl:1<=j:=oo;have g1:zAQ i j=i+2*j:=by unfold zAQ;rw [qab oo]
       rw [g1] at h4;refine (zeM h4 oo (hS.comma j gl hj)).mono ?_;rintro _ w5 ⟨C,h5⟩;exact ⟨rfl,C,by rw [show i+1+2*j=i+2*j+1 by omega];exact h5⟩
     have gp:j=0:=oo;subst gp;exact ⟨rfl,ChgI.refl _,h4⟩
   rintro _ w5 ⟨-,C,h5⟩;have gq:=C.size;have gc:=O.chg C (.inr oo);refine zae u24 gc.is ?_;rw [zjw];refine zai<|br (λhe=>absurd he oo) (λ_=>?_);refine (zks h5 (hS.name j hj)).mono ?_;rintro _ w6 ⟨g2,h6,rfl⟩;have hs6:=g2.size;have gr:=(gc.chg g2 (.inr oo)).mono (lr _) (show w4.heap.size<=w6.heap.size by omega);refine zbM (lo2:=w6.heap.size) (hi2:=w6.heap.size) (x:=sgT L (i+1+2*j)) u24 ty9 z9 zc9 qd gr oo (zlm (hS.size j hj)) (lr _) oo (by rw [zaj,zjw];omega) (by rw [zjw];omega) λv7 _ g3 gs=>?_;have hs7:=g3.size;refine ⟨m-1,oo,j+1,oo,v7,rfl,oo,ChgI.out (((gb.trans I.toI).trans C).trans g2) g3 oo,oo,?_,gs⟩;have:=h6.chg g3 oo;rw [show zAQ i (j+1)=i+1+2*j+1 by unfold zAQ;rw [qab oo];omega];exact this
 have D:=qai.1 D
 have hj:j=n:=by
   rcases qay j n with hj | hj
   . exfalso;unfold zAQ at D;split at D
     . exact hS.first D.2
     have:=hS.comma j oo hj;rw [D.2] at this;exact absurd this qd
   omega
 have g1:zAQ i j=i+2*n:=by unfold zAQ;rw [qab oo,hj]
 rw [g1] at h4;refine (zeM h4 g4 hS.semi).mono ?_;rintro _ w5 ⟨C,h5⟩;have gq:=C.size;rw [hj] at O;exact ⟨(gb.trans I.toI).trans C,h5,(O.chg C (.inr oo)).mono oo oo⟩
end
end Go.Proofs.YtkgiigmcbgifdaaGreat
namespace Go.Sh
open Rep (rep)
variable {F:List Nat} {W w w':wD} {g:Nat}
def ChgI.toC (h:ChgI g (g+1) w w'):Chg [g] w w':=⟨h.os,h.tape,h.output,h.size,λi hi hn=>h.block i hi (by simp only [qaK] at hn;omega)⟩
def Ext.chgL (h:Ext W w) (k:Chg F w w') (hl:∀ c∈F,W.heap.size<=c):Ext W w':=
 ⟨k.os.trans h.os,k.tape.trans h.tape,k.output.trans h.output,qat h.size k.size,λi hi=>(k.block i (qap hi h.size) λe=>by have:=hl i e;omega).trans (h.block i hi)⟩
def Mine.chgF {α:Type} [Rep α] {F G:List Nat} {w w':wD} {v:vL} {x:α} (h:Mine F w v x) (hc:Chg G w w') (hd:∀ c∈F,c∉G):Mine F w' v x:=h.keep λc hcm=>hc.block c (h.lt c hcm) (hd c hcm)
def IsK {α:Type} [Rep α] (lo hi:Nat) (w:wD) (v:vL) (x:α):Prop:=hi<=w.heap.size/\∀ w':wD,(∀ b,lo<=b->b<hi->w'.heap[b]?=w.heap[b]?)->Is w' v x
section
variable {α:Type} [Rep α] {lo hi:Nat} {w w':wD} {v:vL} {x:α}
def IsK.is (h:IsK lo hi w v x):Is w v x:=h.2 w λ_ _ _=>rfl
def IsK.chgF {G:List Nat} (h:IsK lo hi w v x) (hc:Chg G w w') (hd:∀ c∈G,c<lo\/hi<=c):IsK lo hi w' v x:=
 ⟨qat h.1 hc.size,λw2 h2=>h.2 w2 λb h3 h4=>(h2 b h3 h4).trans (hc.block b (qap h4 h.1) λhm=>by have:=hd b hm;omega)⟩
def IsK.ext (h:IsK lo hi w v x) (hx:Ext w w'):IsK lo hi w' v x:=h.chgF (hx.chg []) sS
def OwnI.isK (h:OwnI lo hi w v x) (hh:hi<=w.heap.size):IsK lo hi w v x:=by
 obtain ⟨F,hm,hF⟩:=h
 exact ⟨hh,λ_ hw=>⟨F,by
   obtain ⟨cs,hr,hv⟩:=hm.own;exact ⟨cs,Rep.keep hr λb hb=>hw b (hF b hb).1 (hF b hb).2,hv⟩⟩⟩
def IsK.take {l:List α} {a:Option Addr} {cap k:Nat} (h:IsK lo hi w (.slice a l.length cap) l) (hk:k<=l.length):IsK lo hi w (.slice a k cap) (l.take k):=⟨h.1,λw' hw=>zpv (h.2 w' hw) k hk⟩
def IsK.drop {l:List α} {a:Option Addr} {cap k:Nat} (h:IsK lo hi w (.slice a l.length cap) l) (hk:k<=l.length):IsK lo hi w (.slice (if cap=k then a else a.map (·.add (k*Rep.size α))) (l.length-k) (cap-k)) (l.drop k):=⟨h.1,λw' hw=>zsX (h.2 w' hw) k hk _ rfl⟩
end
end Go.Sh
namespace Go.Proofs.YtkgiigmcbgifdaaGreat
open Go Go.Sh Go.Proofs
open Rep (rep)
variable {F:List Nat} {P:pG} {W w w':wD} {fld g gs k:Nat}
def CurAt.chgF {bs:List UInt8} {s:Cur} (h:CurAt W g bs s w) (hc:Chg F w w') (hg:g∉F) (hl:∀ c∈F,W.heap.size<=c):CurAt W g bs s w':=by
 obtain ⟨v,h0,hx,h2,h3,h4⟩:=h;exact ⟨v,h0,hx.chgL hc hl,h2,h3.chg hc hg,h4⟩
def zuL {a:Prop} [Decidable a] {Q kt kf:Prop} (hq:a->Q) (key:Q->kt) (rest:(Q->kt)->¬a->kf):BR (.bool (decide a)) kt kf:=br (λh=>key (hq h)) λh=>rest key h
def zEE {γ β:Type} [Rep γ] [Rep β] {w w2:wD} {v u:vL} {F G G2:List Nat} {g:Nat} {m2:List β} {upd:List β->γ}
   (hb:∀ w' G' l',Chg G w w'->Mine G' w' u l'->(∀ c∈G',c∈G\/c∉F)->∃ F',MH v F' w' (upd l')/\∀ c∈F',c∈F\/c∈G') (g4:∀ c∈G,c∈F) (hc:Chg (g :: G) w w2) (hg:g∉F) (g3:g<w.heap.size)
   (gh:Mine G2 w2 u m2) (hs:∀ c∈G2,c∈G):∃ F',Mine F' w2 v (upd m2)/\∀ c∈F',c∈F:=by
 obtain ⟨w3,h3⟩:∃ w3:wD,w3={ w2 with heap:=w2.heap.setIfInBounds g w.heap[g] }:=⟨_,rfl⟩;have g0:g<w2.heap.size:=qap g3 hc.size
 have g1:∀ c,c≠g->w3.heap[c]?=w2.heap[c]?:=λc g9=>by
   rw [h3];exact Array.getElem?_setIfInBounds_ne (λe=>g9 e.symm)
 have gb:w3.heap[g]?=w.heap[g]?:=by
   rw [h3];show (w2.heap.setIfInBounds g w.heap[g])[g]?=_;rw [Array.getElem?_setIfInBounds_self_of_lt g0,Array.getElem?_eq_getElem g3]
 have gc:w3.heap.size=w2.heap.size:=by rw [h3];simp
 have gd:Chg G w w3:=⟨by rw [h3];exact hc.os,by rw [h3];exact hc.tape,by rw [h3];exact hc.output,by rw [gc];exact hc.size,λc gf gg=>by
   by_cases e:c=g
   . rw [e];exact gb
   rw [g1 c e];exact hc.block c gf (by simp [e,gg])⟩
 have g2:∀ c∈G2,c≠g:=λc r e=>hg (by rw [<-e];exact g4 c (hs c r));obtain ⟨F',h1,h2⟩:=hb w3 G2 m2 gd (gh.keep λc r=>g1 c (g2 c r)) λc r=>.inl (hs c r);have g5:∀ c∈F',c∈F:=λc r=>(h2 c r).elim id λh=>g4 c (hs c h);refine ⟨F',Mine.keep h1 λc r=>(g1 c λe=>hg (by rw [<-e];exact g5 c r)).symm,g5⟩
def zrj {α:Type} [Rep α] {t e:TypeId} {by_:Nat} {F:List Nat} {v:vL} {l:List α} {k:Nat} {K:vL->Prop} (ht:P.underlying t=some (.slice e)) (he:tyI P e=some (Rep.size α,by_,Rep.agg α)) (hm:Mine F w v l) (hk:k<l.length)
   (kk:∀ b a cap G,v=.slice (some ⟨b,a,none⟩) l.length cap->Lens (MH v) F w b (a+k*Rep.size α) G l[k] (λy=>l.set k y)->K (.pointer (some ⟨b,a+k*Rep.size α,none⟩))):RD P (Instr.indexAt t v (.int .i64 (k:Int))) w K:=by
 obtain ⟨b,a,cap,G,hv,hL⟩:=zxI hm hk;refine zba (v:=.pointer (some ⟨b,a+k*Rep.size α,none⟩)) (λ_ _=>?_) (kk _ _ _ _ hv hL);rw [hv,zcb ht he oo oo];simp
def zpM {α:Type} {D r:List α} {x y:α} (h:D.length=k):(D++x :: r).set k y=D++y :: r:=by
 subst h;rw [qbb _ _ (lr _)];simp
def zku {α:Type} {D r:List α} {x:α} (h:D.length=k) (hk:k<(D++x :: r).length):(D++x :: r)[k]=x:=by
 subst h;simp
def ztn (l:List DStmt):Prop:=∀ {W w:wD} {g:Nat} {bs:List UInt8} {s:Cur} {v vp:vL} {F:List Nat} {lp hp:Nat} {pr:List ByteArray},CurAt W g bs s w->Mine F w v l->g∉F->(∀ c∈F,W.heap.size<=c)->IsK lp hp w vp pr->(g<lp\/hp<=g)->(∀ c∈F,c<lp\/hp<=c)->0<pr.length->pr.length<=1000 ->
 CALL tp 212 [.pointer (some ⟨g,0,none⟩),v,vp] w λr w'=>r=v/\Chg (g :: F) w w'/\CurAt W g bs (zfq bs pr l s).2 w'/\∃ F',Mine F' w' v (zfq bs pr l s).1/\∀ c∈F',c∈F
def zyP {sel:DStmt->List DStmt} {put:DStmt->List DStmt->DStmt} (gi:zdf tp 197 fld=some gs) (gP:∀ x m m',put (put x m) m'=put x m') (gQ:∀ x m,sel (put x m)=m)
   (hl:∀ {H:List Nat->wD->List DStmt->Prop} {F:List Nat} {w:wD} {b o:Nat} {G:List Nat} {x:DStmt} {upd:DStmt->List DStmt},Lens H F w b o G x upd->∃ G1,Lens H F w b (o+gs) G1 (sel x) (λy=>upd (put x y)))
   {W w:wD} {g k:Nat} {bs:List UInt8} {s:Cur} {v vp:vL} {F:List Nat} {lp hp:Nat} {pr:List ByteArray} {D r:List DStmt} {y:DStmt} {K:wD->Prop} (hC:CurAt W g bs s w) (hM:Mine F w v (D++y :: r)) (hD:D.length=k) (g1:g∉F) (gj:∀ c∈F,W.heap.size<=c)
   (hP:IsK lp hp w vp pr) (gl:g<lp\/hp<=g) (g9:∀ c∈F,c<lp\/hp<=c) (gC:0<pr.length) (gD:pr.length<=1000) (ih:ztn (sel y))
   (kk:∀ w' F',Chg (g :: F) w w'->CurAt W g bs (zfq bs pr (sel y) s).2 w'->Mine F' w' v (D++put y (zfq bs pr (sel y) s).1 :: r)->(∀ c∈F',c∈F)->IsK lp hp w' vp pr->K w') :
   RD tp (Instr.indexAt 137 v (.int .i64 (k:Int))) w λx44=>RD tp (Instr.fieldAt 197 x44 fld) w λx45=>RD tp (Instr.loadAt 137 x45) w λx46=>
     CALL tp 212 [.pointer (some ⟨g,0,none⟩),x46,vp] w λx48 w=>RD tp (Instr.indexAt 137 v (.int .i64 (k:Int))) w λx49=>RD tp (Instr.fieldAt 197 x49 fld) w λx50=>
     OPU tp (Instr.storeAt 137 x50 x48) w λw=>K w:=by
 have gf:k<(D++y :: r).length:=by simp;omega
 refine zrj zf9 zb6 hM gf λb a _ G hv hL=>?_;rw [zku hD gf] at hL;obtain ⟨_,g5⟩:=hl hL;obtain ⟨_,_,_,_,_,gt,_⟩:=g5.here;have gg:b∈F:=g5.sub b sS;obtain ⟨ub,gx,gh,C,gy⟩:=g5.row;have gz:=hC.lt.2;refine zaa gi<|zcN zd6 gh ?_;refine (ih hC gx (λh=>g1 (C _ h)) (λc hc=>gj c (C c hc)) hP gl (λc hc=>g9 c (C c hc)) gC gD).mono ?_;rintro _ w3 ⟨gE,g2,gF,_,gb,gc⟩;rw [gE];obtain ⟨_,gp,I⟩:=zEE gy C g2 g1 gz gb gc;rw [zpM hD] at gp
 have gG:=hP.chgF g2 λc hc=>by
   rcases qaa.1 hc with rfl | h
   . exact gl
   exact g9 c (C c h)
 have g0:k<(D++put y (zfq bs pr (sel y) s).1 :: r).length:=by simp;omega
 refine zrj zf9 zb6 gp g0 λb5 a5 _ _ g3 gq=>?_;rw [zku hD g0] at gq
 have gH:b5=b/\a5=a:=by
   rw [hv] at g3;simp only [Value.slice.injEq,qao,Addr.mk.injEq,and_true] at g3;exact ⟨g3.1.1.symm,g3.1.2.symm⟩
 obtain ⟨rfl,rfl⟩:=gH;obtain ⟨_,gr⟩:=hl gq;obtain ⟨u6,gI,gJ,gK,_⟩:=gr.row
 have gM:w3.heap[b5]?=w.heap[b5]?:=g2.block b5 (hM.lt b5 gg) (by
   simp only [qaa,not_or];exact ⟨λe=>g1 (by rw [<-e];exact gg),gt⟩)
 have gN:u6=ub:=by
   have h1:=gJ 0 u6 rfl;have h2:=(zbo gh gM) 0 ub rfl;rw [h1] at h2;exact qa0 h2
 subst gN;refine zaa gi<|zjh zd6 gr gI (λc hc=>.inl hc) λw4 gd ⟨F4,g4,gO⟩=>?_;have g4:Mine F4 w4 v ((D++put y (zfq bs pr (sel y) s).1 :: r).set k (put (put y (zfq bs pr (sel y) s).1) (sel (put y (zfq bs pr (sel y) s).1)))):=g4;rw [zpM hD,gP,gQ] at g4;refine kk w4 F4 ((g2.mono λc hc=>?_).trans (gd.mono λc hc=>by simp [I c hc])) (gF.chgF gd (λh=>g1 (I _ h)) λc hc=>gj c (I c hc)) g4 (λc hc=>?_) (gG.chgF gd λc hc=>g9 c (I c hc))
 . rcases qaa.1 hc with rfl | hc
   . simp
   simp [C c hc]
 rcases gO c hc with h | h
 . exact I c h
 exact I c (gK c h)
def zEF {bs:List UInt8} {pr:List ByteArray} (x:DStmt) (s:Cur) {n:ByteArray} {s2:Cur} (h:(if x.kind=4\/x.kind=5 then (zdi bs pr s,zao bs (pr.length:Int) s) else (x.name,s))=(n,s2)) :
   ztf bs pr x s=(.mk x.kind n x.term (zfq bs pr x.body s2).1 (zfq bs pr x.els (zfq bs pr x.body s2).2).1,(zfq bs pr x.els (zfq bs pr x.body s2).2).2):=by
 obtain ⟨k,nm,t,b,e⟩:=x;have h:(if k=4\/k=5 then (zdi bs pr s,zao bs (pr.length:Int) s) else (nm,s))=(n,s2):=h;show _=(DStmt.mk k n t (zfq bs pr b s2).1 (zfq bs pr e (zfq bs pr b s2).2).1,(zfq bs pr e (zfq bs pr b s2).2).2);by_cases hk:k=4\/k=5
 . rw [qah hk] at h;simp only [qcd] at h;obtain ⟨rfl,rfl⟩:=h;rw [ztf,qah hk]
 rw [qab hk] at h;simp only [qcd] at h;obtain ⟨rfl,rfl⟩:=h;rw [ztf,qab hk]
def zHs (x:DStmt) (m:List DStmt):DStmt:=.mk x.kind x.name x.term m x.els
def zHN (x:DStmt) (m:List DStmt):DStmt:=.mk x.kind x.name x.term x.body m
def ziQ {l:List DStmt} (ih:∀ x∈l,ztn x.body/\ztn x.els):ztn l:=by
 intro W w g bs s v vp F lp hp pr hC hM g3 g5 hP g9 gb gs gt;have:=zak hM.is;refine co (g:=kf [(6,549755797504,[])] [(2,9223372036854775680,[7])] []) Tryz.func212 ?_
 refine zap l.length (λk us w'=>us=[.int .i64 (k:Int)]/\∃ (D:List DStmt) (s1:Cur) (F1:List Nat),D.length=k/\k<=l.length/\zfq bs pr l s=(D++(zfq bs pr (l.drop k) s1).1,(zfq bs pr (l.drop k) s1).2)/\Chg (g :: F) w w'/\CurAt W g bs s1 w' /\
     Mine F1 w' v (D++l.drop k)/\(∀ c∈F1,c∈F)/\IsK lp hp w' vp pr) 0 (z0 _) ⟨rfl,[],s,F,rfl,z0 _,sS,Chg.refl _ _,hC,by simpa using hM,λ_ h=>h,hP⟩ ?_
 rintro k m _ _ _ ⟨hu,D,s1,F1,hD,_,V,gc,gd,I,O,gf⟩;try replace hu:=zbv hu
 rw [hu];refine zae zf9 I.is ?_;have gg:(D++l.drop k).length=l.length:=by simp;omega
 rw [gg];refine zaf<|br (λ_=>?_) (λ_=>?_)
 . have hk:k<l.length:=oo;obtain ⟨x,hx⟩:∃ x,x=l[k]:=⟨_,rfl⟩;have gx:x∈l:=by rw [hx];exact qac hk
   have gy:l.drop k=x :: l.drop (k+1):=by rw [hx];exact qaA hk
   rw [gy] at I;rw [gy,zfq] at V;have r:k<(D++x :: l.drop (k+1)).length:=by simp;omega
   refine JOIN.mk (λus w'=>∃ F2 n s2,Chg (g :: F) w w'/\CurAt W g bs s2 w'/\Mine F2 w' v (D++DStmt.mk x.kind n x.term x.body x.els :: l.drop (k+1))/\(∀ c∈F2,c∈F)/\IsK lp hp w' vp pr /\
       (if x.kind=4\/x.kind=5 then (zdi bs pr s1,zao bs (pr.length:Int) s1) else (x.name,s1))=(n,s2)) ?_ ?_
   . refine zad zf9 zb6 I.is r λ_ _ g0=>?_;rw [zku hD r] at g0;refine zaa zfd<|zac ty3 (zdb g0) (xrf _) λ_=>zai<|zuL (Q:=x.kind=4\/x.kind=5) .inl (λhQ=>?_) (λgz _=>?_)
     . refine zae u24 gf.is ?_;refine (zcM gd oo).mono ?_;rintro _ w2 ⟨gh,gi,rfl⟩;have X:=gh.toC
       have gj:=I.chgF X λc hc h=>by
         simp only [qaK] at h;exact g3 (h▸O c hc)
       have g4:=gf.chgF X λc hc=>by
         simp only [qaK] at hc;exact hc▸g9
       have gC:=zcI bs (n:=(pr.length:Int)) oo s1;refine zaC u24 ty9 g4.is gC.1 oo λ_ _ gl=>zar ty9 gl (xrf _) λgp=>zfY zf9 zb6 gj r λ_ _ _ g1=>?_;rw [zku hD r] at g1;refine zaa zdh ?_;obtain ⟨_,gq⟩:=zqW g1;refine ze7 ty9 gq (zuF gp) λw3 F3 Y U gr=>?_;have U:Mine F3 w3 v ((D++x :: l.drop (k+1)).set k (.mk x.kind (pr[(zbb bs (pr.length:Int) s1).toNat]'(by omega)) x.term x.body x.els)):=U;rw [zpM hD] at U;refine ⟨F3,_,_,((gc.trans (X.mono sS)).trans (Y.mono λc hc=>by simp [O c hc])),gi.chgF Y (λh=>g3 (O _ h)) (λc hc=>g5 c (O c hc)),U,λc hc=>O c (gr c hc),g4.chgF Y (λc hc=>gb c (O c hc)),?_⟩;rw [qah hQ];unfold zdi;rw [<-zfL oo]
     refine zad zf9 zb6 I.is r λ_ _ g2=>?_;rw [zku hD r] at g2;refine zaa zfd<|zac ty3 (zdb g2) (xrf _) λ_=>zai<|br (λh5=>gz (.inr h5)) λh5=>⟨F1,x.name,s1,gc,gd,by rw [DStmt.eta];exact I,O,gf,by rw [qab oo]⟩
   rintro _ w2 ⟨F2,n,s2,X,gi,gj,Z,g4,hn⟩;have gD:=zEF x s1 hn;rw [gD] at V;refine zyP (fld:=3) (sel:=DStmt.body) (put:=zHs) zfe (λ_ _ _=>rfl) (λ_ _=>rfl) zqX gi gj hD (λh=>g3 (Z _ h)) (λc hc=>g5 c (Z c hc)) g4 g9 (λc hc=>gb c (Z c hc)) gs gt (ih x gx).1 λw3 F3 Y gE U gr gF=>?_;have C:∀ c∈F3,c∈F:=λc hc=>Z c (gr c hc);refine zyP (fld:=4) (sel:=DStmt.els) (put:=zHN) zeg (λ_ _ _=>rfl) (λ_ _=>rfl) zk2 gE U hD (λh=>g3 (C _ h)) (λc hc=>g5 c (C c hc)) gF g9 (λc hc=>gb c (C c hc)) gs gt (ih x gx).2 λ_ F4 gG gH gI gJ gK=>zau<|⟨m-1,oo,k+1,oo,rfl,D++[DStmt.mk x.kind n x.term (zfq bs pr x.body s2).1 (zfq bs pr x.els (zfq bs pr x.body s2).2).1],_,F4,by simp [hD],oo,?_,(X.trans (Y.mono λc hc=>?_)).trans (gG.mono λc hc=>?_),gH,?_,λc hc=>C c (gJ c hc),gK⟩
   . rw [V];simp [DStmt.body,DStmt.els,zHs]
   . rcases qaa.1 hc with rfl | hc
     . simp
     simp [Z c hc]
   . rcases qaa.1 hc with rfl | hc
     . simp
     simp [C c hc]
   simpa [zHN,zHs,DStmt.body,DStmt.els,DStmt.kind,DStmt.name,DStmt.term] using gI
 have hk:k=l.length:=oo;subst hk;rw [qbB,zuD] at V;rw [qbB] at I;rw [V];exact ⟨rfl,gc,gd,F1,I,O⟩
def zyQ (l:List DStmt):ztn l:=by
 refine ziQ λx _=>DStmt.ind (p:=λx=>ztn x.body/\ztn x.els) (λ_ hb he=>⟨?_,?_⟩) x
 . intro W w g bs s v vp F lp hp pr;exact ziQ hb
 intro W w g bs s v vp F lp hp pr;exact ziQ he
end Go.Proofs.YtkgiigmcbgifdaaGreat
namespace Go.Sh
open Rep (rep)
structure UpG (g lo:Nat) (w w':wD):Prop where
 os:w'.os=w.os
 tape:w'.tape=w.tape
 output:w'.output=w.output
 size:w.heap.size<=w'.heap.size
 block:∀ b,b<w.heap.size->b<lo->b≠g->w'.heap[b]?=w.heap[b]?
section
variable {g lo:Nat} {w w' w2:wD} {α:Type} [Rep α]
def UpG.refl (g lo:Nat) (w:wD):UpG g lo w w:=⟨rfl,rfl,rfl,lr _,λ_ _ _ _=>rfl⟩
def UpG.trans (h:UpG g lo w w') (k:UpG g lo w' w2):UpG g lo w w2:=
 ⟨k.os.trans h.os,k.tape.trans h.tape,k.output.trans h.output,qat h.size k.size,λb h1 h2 h3=>(k.block b (qap h1 h.size) h2 h3).trans (h.block b h1 h2 h3)⟩
def UpG.mono {lo2:Nat} (h:UpG g lo w w') (hl:lo2<=lo):UpG g lo2 w w':=⟨h.os,h.tape,h.output,h.size,λb h1 h2 h3=>h.block b h1 oo h3⟩
def Ext.upG (h:Ext w w'):UpG g lo w w':=⟨h.os,h.tape,h.output,h.size,λb h1 _ _=>h.block b h1⟩
def ChgI.upG1 (h:ChgI g (g+1) w w'):UpG g lo w w':=⟨h.os,h.tape,h.output,h.size,λb h1 _ h3=>h.block b h1 oo⟩
def ChgI.upG {a b:Nat} (h:ChgI a b w w') (ha:lo<=a):UpG g lo w w':=⟨h.os,h.tape,h.output,h.size,λc h1 h2 _=>h.block c h1 oo⟩
def Chg.upG {F:List Nat} (h:Chg (g :: F) w w') (hF:∀ c∈F,lo<=c):UpG g lo w w':=⟨h.os,h.tape,h.output,h.size,λc h1 h2 h3=>h.block c h1 λhm=>by
 rcases qaa.1 hm with e | hm
 . exact h3 e
 have:=hF c hm;omega⟩
def UpG.toI (h:UpG g lo w w') (hl:w.heap.size<=lo):ChgI g (g+1) w w':=⟨h.os,h.tape,h.output,h.size,λb h1 h2=>h.block b h1 oo oo⟩
def Blk.upG {b e:Nat} {cs:List vL} (h:Blk b e w cs) (hu:UpG g lo w w') (h1:b<lo) (h2:b≠g):Blk b e w' cs:=h.keep (hu.block b h.lt h1 h2)
def OwnI.upG {a b:Nat} {v:vL} {x:α} (h:OwnI a b w v x) (hu:UpG g lo w w') (h1:b<=lo) (h2:g<a\/b<=g):OwnI a b w' v x:=by
 obtain ⟨F,hm,hF⟩:=h;exact ⟨F,hm.keep λc hc=>hu.block c (hm.lt c hc) (by have:=hF c hc;omega) (by have:=hF c hc;omega),hF⟩
def RowI.upG {a b e:Nat} {v:vL} {l:List α} (h:RowI a b e w v l) (hu:UpG g lo w w') (h1:b<=lo) (h2:g<a\/b<=g):RowI a b e w' v l:=by
 obtain ⟨F,hm,hn,hF⟩:=zeZ.1 h;exact zeZ.2 ⟨F,hm.keep λc hc=>hu.block c (hm.lt c hc) (by have:=hF c hc;omega) (by have:=hF c hc;omega),hn,hF⟩
def IsK.upG {a b:Nat} {v:vL} {x:α} (h:IsK a b w v x) (hu:UpG g lo w w') (h1:b<=lo) (h2:g<a\/b<=g):IsK a b w' v x:=
 ⟨qat h.1 hu.size,λw3 h3=>h.2 w3 λc h4 h5=>(h3 c h4 h5).trans (hu.block c (qap h5 h.1) oo oo)⟩
def zon {v:vL} {x:α} (h:OwnI lo lo w v x):Mine [] w v x:=by
 obtain ⟨F,hm,hF⟩:=h;have:F=[]:=qbJ.2 λc hc=>by have:=hF c hc;omega
 subst this;exact hm
def zmr {hi:Nat} {n:ByteArray} {vb:vL} {l:List DStmt} (hn:n.size<=maxLen) (h:OwnI lo hi w vb l):OwnI lo hi w (.agg #[.string n,vb]) (⟨n,l⟩:DProc):=by
 obtain ⟨F,⟨⟨_,hr,hv⟩,g0,hw⟩,hF⟩:=h;obtain ⟨_,rfl⟩:=ze5 hr;simp only [mkv,Rep.agg,cond_false,qbd] at hv;subst hv;exact ⟨F,⟨⟨[.string n,vb],zaR (F:=[]) (c1:=[.string n]) (show rep [] w [.string n] n from ⟨rfl,rfl,hn⟩) hr,rfl⟩,g0,hw⟩,hF⟩
def zjx {a b c:vL} {p:DProg} {lo hi l0 h0 l1 h1 l2 h2:Nat} (m0:OwnI l0 h0 w a p.globals) (m1:OwnI l1 h1 w b p.locks) (m2:OwnI l2 h2 w c p.procs) (d01:h0<=l1\/h1<=l0) (d02:h0<=l2\/h2<=l0) (d12:h1<=l2\/h2<=l1)
   (b0:lo<=l0/\h0<=hi) (b1:lo<=l1/\h1<=hi) (b2:lo<=l2/\h2<=hi):OwnI lo hi w (.agg #[a,b,c]) p:=by
 obtain ⟨F0,M0,B0⟩:=m0;obtain ⟨F1,M1,B1⟩:=m1;obtain ⟨F2,M2,B2⟩:=m2;refine ⟨F0++(F1++F2),⟨⟨[a,b,c],zaR (zbC rfl M0.own) (zaR (zbC rfl M1.own) (zbC rfl M2.own)),rfl⟩,?_,M0.wr.append (M1.wr.append M2.wr)⟩,λx hx=>?_⟩
 . rw [qas,qas];refine ⟨M0.nodup,⟨M1.nodup,M2.nodup,λp hp q hq e=>?_⟩,λp hp q hq e=>?_⟩
   . subst e;have:=B1 p hp;have:=B2 p hq;omega
   subst e;have:=B0 p hp;rcases qae.1 hq with hq | hq
   . have:=B1 p hq;omega
   have:=B2 p hq;omega
 rcases qae.1 hx with hx | hx
 . have:=B0 x hx;omega
 rcases qae.1 hx with hx | hx
 . have:=B1 x hx;omega
 have:=B2 x hx;omega
end
end Go.Sh
namespace Go.Proofs.YtkgiigmcbgifdaaGreat
open Go Go.Sh Go.Proofs
open Rep (rep)
variable {K:vL->Prop} {O g gi:Nat} {P:pG} {W W0 w:wD} {v v0 v1:vL}
section
variable {w:wD} {K:VW}
def zyR (k:∀ v w',Ext w w'->OwnI w.heap.size w'.heap.size w' v lks->K v w'):OP tp (Instr.buildSlice 24 3 #[(0,(Value.string (ByteArray.mk #[97]))),(1,(Value.string (ByteArray.mk #[98]))),(2,(Value.string (ByteArray.mk #[109])))]) w K:=
 zfK (vs:=lks.map Value.string) (l:=lks) u24 ty9 zcA qd kK rfl (λw=>zcH qd) k
def zGw (k:∀ v w',Ext w w'->OwnI w.heap.size w'.heap.size w' v glb->K v w'):OP tp (Instr.buildSlice 24 4 #[(0,(Value.string (ByteArray.mk #[120]))),(1,(Value.string (ByteArray.mk #[121]))),(2,(Value.string (ByteArray.mk #[122]))),(3,(Value.string (ByteArray.mk #[117])))]) w K:=
 zfK (vs:=glb.map Value.string) (l:=glb) u24 ty9 zcA qd kK rfl (λw=>zcH qd) k
def zGx (k:∀ v w',Ext w w'->OwnI w.heap.size w'.heap.size w' v prc4->K v w'):OP tp (Instr.buildSlice 24 4 #[(0,(Value.string (ByteArray.mk #[109,97,105,110]))),(1,(Value.string (ByteArray.mk #[112]))),(2,(Value.string (ByteArray.mk #[113]))),(3,(Value.string (ByteArray.mk #[114])))]) w K:=
 zfK (vs:=prc4.map Value.string) (l:=prc4) u24 ty9 zcA qd kK rfl (λw=>zcH qd) k
end
mutual
theorem zEG:∀ (x:DStmt) (n:Int),0<=n->-1<=zxp x n/\zxp x n<=n
  | .mk k s t b e,n,hn=>by
    rw [zxp];have h1:=zms b (n-1) oo;have h2:=zms e (zk4 b (n-1)) h1.1;omega
theorem zms:∀ (l:List DStmt) (n:Int),-1<=n->-1<=zk4 l n/\zk4 l n<=n
  | [],n,hn=>by rw [zk4];omega
  | x :: l,n,hn=>by
    rw [zk4];split
    . rename_i h;have h1:=zEG x n h;have h2:=zms l (zxp x n) h1.1;omega
    omega
end
def zBo (x:DStmt) (n:Int):zxp x n=zk4 x.els (zk4 x.body (n-1)):=by cases x;rw [zxp];rfl
def zEH (l:List DStmt):Prop:=∀ {w W:wD} {v:vL} {n:Int},Is W v l->Ext W w->-1<=n->n<=1000->CALL tp 210 [v,.int .i64 n] w λr w'=>Ext w w'/\(r=.int .i64 (zk4 l n))
def zgV {l:(List DStmt)} {n:Int}  (h0:Is W0 v0 l) (e0:Ext W0 w) (ih:∀ x∈l,zEH x.body/\zEH x.els) (g4:-1<=n) (g5:n<=1000) :
   CALL tp 210 [v0,.int .i64 n] w λr w'=>Ext w w'/\(r=.int .i64 (zk4 l n)):=by
 refine co (g:=kf [] [(2,1073741794,[1,5])] [(4,[0,1,2,3,4,5,6,7,8,9,10,11,12,13,14],4096)]) Tryz.func210 ?_;refine zap (l.length) (λk us w'=>∃ (n1:Int),us=[.int .i64 n1,.int .i64 (k:Int)]/\Ext w w'/\(zk4 l n=zk4 (l.drop k) n1/\-1<=n1/\n1<=1000/\k<=l.length)) (0) oo ⟨n,rfl,xrf w,sS,g4,g5,oo⟩ ?_;rintro k m2 _ g9 _ ⟨n1,hu,y1,g0,_,_,_⟩;obtain ⟨g1,g2⟩:=zcZ hu;try rw [g1]
 try rw [g2]
 try clear g1 g2
 have:=zak h0;refine zae zf9 h0<|zaf<|br (λc1=>?_) (λc1=>?_)
 . refine zb9 ?_;refine br (λc2=>?_) (λc2=>?_)
   . have y2:=zag g9;have hk:k<l.length:=oo;have g3:=zms (l[k]).body (n1-1) oo;refine zad zf9 zb6 h0 oo λ_ _ gb=>zaa zeg<|zab zd6 (zdc gb) (e0.t (y1.t y2)) λ_ gc=>zad zf9 zb6 h0 oo λ_ _ gd=>zaa zfe<|zab zd6 (zdF gd) (e0.t (y1.t y2)) λ_ gf=>zbe io ?_;refine ((ih _ (qac hk)).1 gf (e0.t (y1.t y2)) oo oo).mono ?_;rintro _ _ ⟨y3,rfl⟩;refine ⟨y3,?_⟩;refine ((ih _ (qac hk)).2 gc (e0.t (y1.t (y2.t y3))) g3.1 oo).mono ?_;rintro _ _ ⟨y4,rfl⟩;refine zau<|⟨m2-1,oo,k+1,oo,_,rfl,(y1.t (y2.t (y3.t y4))),?_⟩;have:=zms (l[k]).els _ g3.1;refine ⟨?_,oo,oo,oo⟩;rw [g0,qaA hk,zk4,qah oo,zBo]
   refine ⟨y1,?_⟩;rw [g0];cases h:l.drop k with
   | nil=>rw [zk4]
   | cons x r=>rw [zk4,qab oo]
 refine ⟨y1,?_⟩;rw [g0,qb5 oo,zk4]
def zmt (l:List DStmt):zEH l:=by
 have h:∀ x:DStmt,zEH x.body/\zEH x.els:=λx=>by
   refine DStmt.ind (p:=λx=>zEH x.body/\zEH x.els) (λ_ hb he=>⟨?_,?_⟩) x
   . intro w W v n h e h0 h1;exact zgV h e hb h0 h1
   intro w W v n h e h0 h1;exact zgV h e he h0 h1
 intro w W v n hv e h0 h1;exact zgV hv e (λx _=>h x) h0 h1
def zpN {bs:List UInt8} {s:Cur} {body:List DStmt} (hC:CurAt W g bs s w) (h1:OwnI O gi w v1 body) (hlo:O<=w.heap.size) (hhi:gi<=w.heap.size) (hg1:g<O) (hbl:body.length<=1000) :
   CALL tp 211 [.pointer (some ⟨g,0,none⟩),v1] w λr w'=>UpG g O w w'/\CurAt W g bs (zmj bs body s).2 w'/\RowI O w'.heap.size 197 w' r (zmj bs body s).1:=by
 have:=hC.lt;have g5:((lks.length:Nat):Int)=3:=rfl;refine co (g:=kf [(6,536739968,[7])] [] []) Tryz.func211 ?_;refine zyR λ_ _ U o9=>?_;have:=U.size;refine (zdH (hC.ext U) o9 oo oo oo qd qd).mono ?_;rintro _ _ ⟨Y,g9,rfl,D⟩;have:=Y.size;rw [g5] at g9;refine zyR λ_ _ V gj=>?_;have:=V.size;refine (zdH (g9.ext V) gj oo oo oo qd qd).mono ?_;rintro _ w4 ⟨Z,gb,rfl,g0⟩;have:=Z.size;rw [g5] at gb;refine zdu (lo:=w4.heap.size) (hi:=w4.heap.size) (lr _) io D λ_ gc=>zci (β:=DStmt) zf9 zb6 zEr qd (zon gc) λgd w5 I g4=>?_;have:=I.size;have:UpG g O w w5:=(U.upG.trans Y.upG1).trans ((V.upG.trans Z.upG1).trans I.upG);have:=((((h1.ext U).chg Y oo).ext V).chg Z oo).ext I;have gf:=gb.ext I;obtain ⟨na,g1⟩:∃ x,x=zdi bs lks s:=⟨_,rfl⟩;obtain ⟨nb,g2⟩:∃ x,x=zdi bs lks (zao bs 3 s):=⟨_,rfl⟩;rw [<-g1] at D gc g4;rw [<-g2] at g0;rw [<-g1,<-g2]
 have hg:zmj bs body s=(if na=nb then (zgu na :: (body++[zeK na]),zao bs 3 (zao bs 3 s)) else if zbb bs 2 (zao bs 3 (zao bs 3 s))=0 then (zgu na :: zgu nb :: (body++[zeK na]),zao bs 2 (zao bs 3 (zao bs 3 s)))
     else (zgu na :: (body++[zeK na]),zao bs 2 (zao bs 3 (zao bs 3 s)))):=by unfold zmj;rw [<-g1,<-g2]
 clear g1 g2;refine JOIN.mk (λus w'=>∃ v l s',us=[v]/\ChgI g (g+1) w4 w'/\CurAt W g bs s' w'/\RowI w4.heap.size w'.heap.size 197 w' v l/\l.length<=2/\zmj bs body s=(l++(body++[zeK na]),s')) ?_ ?_
 . refine zpd ?_;refine br (λgg=>?_) (λhe=>?_)
   . refine (zgx gf oo).mono ?_;rintro _ w6 ⟨C,g3,rfl⟩;have gl:=C.size;have r6:=g4.chg C oo;refine br (λh0=>?_) (λh0=>?_)
     . refine zdu (lo:=w6.heap.size) (hi:=w6.heap.size) (lr _) io g0 λ_ gp=>?_;refine zbM (α:=DStmt) zf9 zb6 zEr zs9 qd r6 oo gp oo oo (by rw [zaj];simp) sS λgq w7 X gr=>⟨gq,[zgu na,zgu nb],_,rfl,ChgI.out (I.toI.trans C) X oo,g3.chg X oo oo,gr,sS,?_⟩;rw [hg,qab gg,qah h0];rfl
     refine ⟨gd,[zgu na],_,rfl,I.toI.trans C,g3,r6.mono oo oo,sS,?_⟩;rw [hg,qab gg,qab h0];rfl
   refine ⟨gd,[zgu na],_,rfl,I.toI,gf,g4,sS,?_⟩;rw [hg,qah (qai.1 he)];rfl
 rintro _ w6 ⟨v,l,s',hu,C,g3,r6,_,gs⟩;try replace hu:=zbv hu
 rw [hu,gs];have gl:=C.size;have gt:=(((((h1.ext U).chg Y oo).ext V).chg Z oo)).chg C oo;refine zkq (α:=DStmt) (lo0:=O) zf9 zb6 zs9 r6 oo gt oo oo oo (by rw [zaj];omega) oo λ_ w7 X gx=>?_;have:=X.size;refine zdu (lo:=w7.heap.size) (hi:=w7.heap.size) (lr _) io D λ_ gy=>zbM (α:=DStmt) zf9 zb6 zEr zs9 qd gx oo gy oo oo (by rw [zaj,qag];omega) (by rw [qag];omega) λ_ _ gh gz=>⟨(((U.upG.trans Y.upG1).trans (V.upG.trans Z.upG1)).trans C.upG1).trans ((X.upG oo).trans (gh.upG oo)),(g3.chg X oo oo).chg gh oo oo,?_⟩;simpa [zeK] using gz
def zuM {X:Nat->Prop} {m:Sem vL} (h:∀ w':wD,m.run P w'=.ok v w') (k:K v):RDX P X m w K:=⟨v,λw' _=>h w',k⟩
def zyS (bs:List UInt8) (s:Cur):2<=(zmk bs s).length/\(zmk bs s).length<=4:=by
 have:=zyL bs s;unfold zmk;rw [qaj];show 2<=min _ 4/\min _ 4<=4;omega
end Go.Proofs.YtkgiigmcbgifdaaGreat
namespace Go.Sh
open Rep (rep)
section
variable {P:pG} {w w0 w':wD} {α:Type} [Rep α] {lo hi e:Nat} {v:vL} {l:List α}
def RowG.flat [Flat α] {F:List Nat} (h:RowG F e w v l):F=[]\/∃ b,F=[b]:=by
 rcases h with ⟨_,_,_,rfl⟩ | ⟨xs,_,_,hc,rfl,_⟩
 . exact .inl rfl
 have:=Cells.flat (xs:=xs) hc;subst this;rcases hv:v.ownBlock with _ | b
 . exact .inl sS
 exact .inr ⟨b,sS⟩
def zyT [RepZ α]:OwnI lo hi w (mkv α (RepZ.zc α)) (RepZ.zv:α):=⟨[],⟨⟨RepZ.zc α,RepZ.zr w,rfl⟩,qav,Wr.nil w⟩,sS⟩
def Chg.ofI {F:List Nat} (h:Chg F w w') (hF:∀ b∈F,lo<=b/\b<hi):ChgI lo hi w w':=
 ⟨h.os,h.tape,h.output,h.size,λb hb hx=>h.block b hb λhm=>by have:=hF b hm;omega⟩
def ChgI.ext_left {w1:wD} (hx:Ext w w1) (h:ChgI lo hi w1 w'):ChgI lo hi w w':=
 ⟨h.os.trans hx.os,h.tape.trans hx.tape,h.output.trans hx.output,qat hx.size h.size,λb hb ho=>by rw [h.block b (qap hb hx.size) ho,hx.block b hb]⟩
def zek [Flat α] {t ty:TypeId} {by_:Nat} {u:vL} {x:α} {lo2 hi2:Nat} {K:vL->wD->Prop} (ht:P.underlying t=some (.slice e)) (he:tyI P e=some (Rep.size α,by_,Rep.agg α)) (hz:zbZ P e=true)
   (g3:(P.info? e).map (λi=>(i.zero.map (·.cells.size)))=some (some (Rep.size α))) (g4:Rep.size α<=1000) (hv:RowI lo hi e w v l) (hx:OwnI lo2 hi2 w u x) (hm:l.length+1<=maxLen) (hb:(l.length+1)*by_<=140737488355328)
   (k:∀ v' w' lo' hi',ChgI lo hi w w'->RowI lo' hi' e w' v' (l++[x])->(lo'=lo/\hi'=hi\/lo'=w.heap.size/\hi'=w'.heap.size)->K v' w'):OP P (Instr.buildSlice t 1 #[(0,u)]) w λs w1=>OP P (Builtin.append_ #[t,t] ty [v,s].toArray) w1 K:=by
 obtain ⟨_,h1,h2,h3⟩:=zeZ.1 hv;obtain ⟨G,g1,_⟩:=hx;have g2:G=[]:=by obtain ⟨_,hr,_⟩:=g1.own;exact Flat.flat hr
 subst g2;refine zdU (K:=λ_=>K) ht he hz g3 g4 h1 h2 g1 sS hm hb (λw1 v' w' _ g5 hc hR hN hs=>?_) λ_ _ _ h=>h;have g0:=ChgI.ext_left g5 (hc.ofI h3);have g9:=hR.lt;rcases hR.flat with rfl | ⟨b,rfl⟩
 . exact k v' w' lo hi g0 (zeZ.2 ⟨[],hR,hN,sS⟩) (.inl ⟨rfl,rfl⟩)
 rcases hs b sS with h | h | h
 . exact k v' w' lo hi g0 (zeZ.2 ⟨[b],hR,hN,λc hc=>by simp at hc;subst hc;exact h3 _ h⟩) (.inl ⟨rfl,rfl⟩)
 . cases h
 exact k v' w' w.heap.size w'.heap.size g0 (zeZ.2 ⟨[b],hR,hN,λc hc=>by simp at hc;subst hc;exact ⟨h,g9 _ sS⟩⟩) (.inr ⟨rfl,rfl⟩)
end
end Go.Sh
namespace Go.Proofs.YtkgiigmcbgifdaaGreat
open Go Go.Sh Go.Proofs
open Rep (rep)
variable {K:vL->Prop} {W w:wD} {cap g hi i k lo n:Nat}
def zwj {n:ByteArray} {a:Option Addr} {m c:Nat}:(Instr.build 139 #[(0,.string n),(1,.slice a m c)]).run tp w=.ok (.agg #[.string n,.slice a m c]) w:=by
 obtain ⟨v,h1,h2⟩:=zaF (P:=tp) (w:=w) (K:=λv=>v=.agg #[.string n,.slice a m c]) (t:=139) (parts:=#[(0,.string n),(1,.slice a m c)]) (cells:=#[.string n,.slice a m c]) kK rfl;subst h2;exact h1 w (xrf w)
def zBp {X:Nat->Prop} {a:Option Addr} {l:List ByteArray} (h:IsK lo hi w (.slice a n cap) l) (hn:n=l.length) (g1:i<l.length) (hX:∀ b,lo<=b->b<hi->¬X b)
   (k:l[i].size<=maxLen->K (.string l[i])):∃ p,(∀ w':wD,(Instr.indexAt 24 (.slice a n cap) (.int .i64 (i:Int))).run tp w'=.ok p w')/\RDX tp X (Instr.loadAt 9 p) w K:=by
 subst hn;obtain ⟨F,cs,⟨a',g0,Fi,xs,rfl,h1,h2,hc,h4⟩,hv⟩:=h.is;simp only [mkv,Rep.agg,cond_false,qbd,Value.slice.injEq] at hv;obtain ⟨rfl,_,rfl⟩:=hv;rcases h4 with ⟨rfl,_⟩ | ⟨b,o,rfl,rfl,hr,hb⟩
 . simp at g1
 refine ⟨.pointer (some ⟨b,o+i*1,none⟩),λw'=>by rw [zcb u24 ty9 oo oo];simp,?_⟩
 have g2:∀ w':wD,Is w' (.slice (some ⟨b,o,none⟩) l.length cap) l->w'.cell? ⟨b,o+i*1,none⟩=some (.string l[i])/\l[i].size<=maxLen:=by
   intro w' hw;obtain ⟨F,cs,⟨a',g0,Fi,xs,rfl,h1,h2,hc,h4⟩,hv⟩:=hw;simp only [mkv,Rep.agg,cond_false,qbd,Value.slice.injEq] at hv;obtain ⟨rfl,_,rfl⟩:=hv;rcases h4 with ⟨rfl,_⟩ | ⟨_,_,g3,rfl,hr,hb⟩
   . simp at g1
   simp only [qao,Addr.mk.injEq,and_true] at g3;obtain ⟨rfl,rfl⟩:=g3;have e:l=l.take i++(l[i] :: l.drop (i+1)):=by simp
   rw [e] at hc;obtain ⟨_,_,x1,_,rfl,rfl,c1,c2⟩:=Cells.split hc;obtain ⟨_,_,_,_,rfl,rfl,⟨_,rfl,hs⟩,_⟩:=c2;have g4:x1.length=i:=by rw [Cells.len c1,qaj,qbv oo];exact qcb i
   refine ⟨?_,hs⟩;have:=hr i (.string l[i]) (by rw [List.getElem?_append_right oo,g4];simp);simpa using this
 refine ⟨.string l[i],λw' g5=>?_,k (g2 w h.is).2⟩;have h0:=(g2 w' (h.2 w' λc h5 h6=>g5.block c (qap h6 h.1) (hX c h5 h6))).1;rw [qcb] at h0;have hA:=zca ty9 w';simp [Instr.loadAt,Instr.sureAddr,loadVar,hA,h0]
def zyU (bs:List UInt8) (s:Cur):(zbw bs 2 s).1.length<=4/\(zbw bs 1 (zbw bs 2 s).2).1.length<=4/\(zhq bs s).1.length<=50/\(ziO bs (zhq bs s)).1.length<=53:=by
 refine ⟨zmi 4 0 _,zmi 4 0 _,?_,?_⟩
 . have:=zth bs s;have:=zpJ (zhq bs s).1;omega
 have:=zyK bs (zth bs s);have:=zpJ (ziO bs (zhq bs s)).1;omega
def zlv {X:Nat->Prop} {m:Sem vL} {p:vL} (h:∀ w':wD,m.run tp w'=.ok p w') (k:K p):RDX tp X m w K:=⟨p,λw' _=>h w',k⟩
def zyV {pr:List ByteArray} (h:1<pr.length):(pr.drop 1).getD 0 nO=pr[1]:=by
 rw [List.getD_eq_getElem?_getD,List.getElem?_drop,List.getElem?_eq_getElem h];rfl
def znF {bs:List UInt8} {pr l:List ByteArray} {s:Cur} (hk:k<l.length):zb0 bs pr (l.drop k) k s =
   (⟨l[k],(zei bs pr k s).1⟩ :: (zb0 bs pr (l.drop (k+1)) (k+1) (zei bs pr k s).2).1,(zb0 bs pr (l.drop (k+1)) (k+1) (zei bs pr k s).2).2):=by
 rw [qaA hk,zb0]
def zwk {bs:List UInt8} {s:Cur} (hC:CurAt W g bs s w) :
   CALL tp 153 [.pointer (some ⟨g,0,none⟩)] w λr w'=>ChgI g (g+1) w w'/\CurAt W g bs (zdT bs s).2 w'/\OwnI w.heap.size w'.heap.size w' r (zdT bs s).1:=by
 have hgl:=hC.lt;refine co (g:=⟨extL,[(9,2080374848,[6]),(11,66571993152,[6]),(13,562881233944640,[6])],[(4,18446744073709518944,[5])],[(13,[0,1,2,3,4,5,6,7,8,9,10,11,12,13,14,15],5120)],[],[13],[]⟩) Tryz.func153 ?_;refine zaL zGk λw1 hG hH=>?_;have hs1:=hG.size;have hg1:=hH.lt;refine zGw λ_ w2 gR o7=>?_;have hs2:=gR.size;refine zyR λ_ w3 gO o8=>?_;have hs3:=gO.size;have o7:=o7.ext gO;obtain ⟨a7,g0,rfl⟩:=zdP o7;obtain ⟨a8,g1,rfl⟩:=zdP o8;refine zaF (cells:=#[.slice a7 glb.length g0,.slice a8 lks.length g1,.slice none 0 0]) kK<|zaL zGk λ_ gq hI=>?_;have hs4:=gq.size;have hg4:=hI.lt;have o7:=o7.ext gq;have o8:=o8.ext gq;refine zaz (x:=(⟨glb,lks,[]⟩:DProg)) (lo:=w1.heap.size) (hi:=w3.heap.size) zlY rfl hI rfl (zjx (l0:=w1.heap.size) (h0:=w2.heap.size) (l1:=w2.heap.size) (h1:=w3.heap.size) (l2:=w3.heap.size) (h2:=w3.heap.size) o7 o8 zb1 oo oo oo oo oo oo) λw5 gr j2=>?_;have hs5:=gr.size;have o7:=o7.chg gr oo;have o8:=o8.chg gr oo;have gs:Ext w w5:=Ext.chgI (hG.t (gR.t (gO.t gq))) gr oo;have gS:=(hH.ext (gR.t (gO.t gq))).chgI gr oo;refine zGx λ_ w6 gd gt=>?_;have hs6:=gd.size;refine (zcM (hC.ext (gs.t gd)) oo).mono ?_;rintro _ w7 ⟨gf,j3,rfl⟩;have hs7:=gf.size;have o7:=(o7.ext gd).chg gf oo;have o8:=(o8.ext gd).chg gf oo;have gt:=gt.chg gf oo;have j4:=(j2.ext gd).chgI gf oo;have gU:=(gS.ext gd).chgI gf oo;have hbx:=zcI bs (n:=3) oo s;have hN:=zyS bs s;refine zcY io ?_;obtain ⟨g2,C,rfl⟩:=zdP gt;have gV:=gt.isK oo;obtain ⟨np,j5⟩:∃ np:Nat,np=2+(zbb bs 3 s).toNat:=⟨_,rfl⟩;have gW:np<=prc4.length:=by show np<=4;omega
 have gx:zmk bs s=prc4.take np:=by rw [j5];rfl
 have g3:(zmk bs s).length=np:=by rw [gx,qaj];omega
 have hK:=gV.take gW;rw [<-gx] at hK
 have j6:∀ w':wD,(Instr.sliceAt 24 (.slice g2 prc4.length C) none (some (.int .i64 (2+zbb bs 3 s))) none).run tp w'=.ok (.slice g2 np C) w':=λw'=>by
   obtain ⟨a',gX,j7,j8,gy,q1,q2,_⟩:=zcE gt.is;simp only [Value.slice.injEq] at gy;obtain ⟨rfl,_,rfl⟩:=gy
   have hb:(Instr.sliceBounds true prc4.length C none (some (.int .i64 (2+zbb bs 3 s))) none).run tp w'=.ok (0,np,C) w':=by
     have h1:2+zbb bs 3 s<=(C:Int):=oo;have h2:(0:Int)<=2+zbb bs 3 s:=oo;have h3:(2+zbb bs 3 s).toNat=np:=oo;simp [Instr.sliceBounds,Instr.sliceBound,asIntOf,h1,h2,h3]
   simp only [Instr.sliceAt,Instr.slice,Sem.run_bind,run_underlying u24,Result.andThen_ok,hb,zaJ ty9];simp;exact λ_=>by cases g2<;>simp [Addr.add_mid,Addr.add]
 refine zba (λw' _=>j6 w') ?_;obtain ⟨L,hL⟩:∃ L,L=zmk bs s:=⟨_,rfl⟩;rw [<-hL] at hK hN g3;have j9:0<(L.drop 1).length:=by rw [qa8];omega
 have gY:ChgI g (g+1) w w7:=((gs.t gd).toI).trans gf
 refine zap L.length (λk us w'=>us=[.int .i64 (k:Int)]/\∃ (ps:List DProc) (s1:Cur) (vr:vL) (hi:Nat),k<=L.length/\ps.length=k/\zb0 bs (L.drop 1) L 0 (zao bs 3 s)=(ps++(zb0 bs (L.drop 1) (L.drop k) k s1).1,(zb0 bs (L.drop 1) (L.drop k) k s1).2) /\
     CurAt W g bs s1 w'/\ChgI g (g+1) w w'/\Blk w3.heap.size 70 w' [.slice a7 glb.length g0,.slice a8 lks.length g1,vr]/\OwnI w1.heap.size w2.heap.size w' (.slice a7 glb.length g0) glb/\OwnI w2.heap.size w3.heap.size w' (.slice a8 lks.length g1) lks /\
     IsK w5.heap.size w6.heap.size w' (.slice g2 np C) L/\RowI w6.heap.size hi 139 w' vr ps/\w6.heap.size<=hi/\hi<=w'.heap.size/\Blk w.heap.size 70 w' [.slice none 0 0,.slice none 0 0,.slice none 0 0]) 0 (z0 _)
     ⟨rfl,[],zao bs 3 s,.slice none 0 0,w6.heap.size,z0 _,rfl,sS,j3,gY,j4,o7,o8,hK,zb7 _ _ _ _,lr _,oo,gU⟩ ?_
 rintro k m u w8 _ ⟨hu,ps,s1,vr,hi,_,ja,gz,hJ,gZ,hM,o7,o8,gP,r8,_,_,gC⟩;try replace hu:=zbv hu
 rw [hu];have hs8:=gZ.size;refine zae u24 gP.is<|zaf<|br (λ_=>?_) (λ_=>?_)
 . have hk:k<L.length:=oo;rw [znF hk] at gz;obtain ⟨q1,q2,_,_⟩:=zyU bs s1;refine ((ztl 2 oo).2 hJ rfl).mono ?_;rintro _ w9 ⟨gg,jb,h4⟩;have jc:=gg.size;refine ((ztl 1 oo).2 jb rfl).mono ?_;rintro _ _ ⟨gh,h5,jd⟩;have je:=gh.size;refine zwe (α:=DStmt) zf9 zb6 zs9 (h4.chg gh oo) oo jd.own oo oo (by rw [zaj];omega) oo λjf jg gi hO=>?_;have jh:=gi.size;have gD:=h5.chg gi oo oo;have gE:UpG g w8.heap.size w8 jg:=(gg.upG1.trans gh.upG1).trans (gi.upG oo);refine JOIN.mk (λus w'=>∃ v,us=[v]/\UpG g w8.heap.size w8 w'/\CurAt W g bs (zhq bs s1).2 w'/\OwnI w8.heap.size w'.heap.size w' v (zhq bs s1).1) ?_ ?_
   . refine (zmt _ hO.is (xrf _) oo oo).mono ?_;rintro _ gQ ⟨O,rfl⟩;have ji:=O.size;refine zaf<|br (λh0=>?_) (λh0=>?_)
     . refine zok (lo:=gQ.heap.size) (hi:=gQ.heap.size) (lr _) io λ_ jj=>?_;refine zgr (α:=DStmt) (lo:=gQ.heap.size) (hi:=gQ.heap.size) zf9 zb6 zEr qd jj oo λjk _ gF jl=>⟨jk,rfl,(gE.trans O.upG).trans gF.upG,gD.ext (O.t gF),?_⟩;unfold zhq;rw [qah h0];exact jl.mono oo oo
     refine ⟨jf,rfl,gE.trans O.upG,gD.ext O,?_⟩;unfold zhq;rw [qab h0];exact (hO.ext O).own.mono oo oo
   rintro _ _ ⟨v14,hu,gj,h6,jm⟩;try replace hu:=zbv hu
   rw [hu];have jn:=gj.size;have jo:g<w8.heap.size:=oo;refine JOIN.mk (λus w'=>∃ v,us=[v]/\UpG g w8.heap.size w8 w'/\CurAt W g bs (ziO bs (zhq bs s1)).2 w'/\OwnI w8.heap.size w'.heap.size w' v (ziO bs (zhq bs s1)).1) ?_ ?_
   . refine (zgx h6 oo).mono ?_;rintro _ _ ⟨g4,gG,rfl⟩;have h8:=g4.size;have hP:=jm.chg g4 oo;refine br (λh0=>?_) (λh0=>?_)
     . refine (zpN gG hP oo oo jo oo).mono ?_;rintro jp _ ⟨h9,ha,jq⟩;refine ⟨jp,rfl,(gj.trans g4.upG1).trans h9,?_,?_⟩
       . unfold ziO;rw [qah h0];exact ha
       unfold ziO;rw [qah h0];exact jq.own
     refine ⟨v14,rfl,gj.trans g4.upG1,?_,?_⟩
     . unfold ziO;rw [qab h0];exact gG
     unfold ziO;rw [qab h0];exact hP.mono (lr _) h8
   rintro _ _ ⟨hQ,hu,U,gH,hR⟩;try replace hu:=zbv hu
   rw [hu];have jr:=U.size;have hd:=gP.upG U oo oo;have he:1<L.length:=oo;refine JOIN.mk (λus w'=>∃ v,us=[v]/\UpG g w8.heap.size w8 w'/\CurAt W g bs (zli bs k ((L.drop 1).getD 0 nO) (ziO bs (zhq bs s1))).2 w'/\OwnI w8.heap.size w'.heap.size w' v (zli bs k ((L.drop 1).getD 0 nO) (ziO bs (zhq bs s1))).1) ?_ ?_
   . refine zai ?_;refine br (λjs=>?_) (λjs=>?_)
     . have I:k=0:=oo;refine (zgx gH oo).mono ?_;rintro _ hS ⟨V,gI,rfl⟩;have hf:=V.size;have hV:=hR.chg V oo;have hg:=hd.chgF V.toC so;refine br (λh0=>?_) (λh0=>?_)
       . refine zaC (l:=L) (i:=1) u24 ty9 hg.is oo (by show 1<L.length;omega) λ_ _ hh=>?_;refine zar ty9 hh (xrf _) λhl=>zdu (lo:=hS.heap.size) (hi:=hS.heap.size) (lr _) io hl λ_ jt=>zci (β:=DStmt) zf9 zb6 zEr qd (zon jt) λ_ _ g5 ju=>?_;have jv:=g5.size;refine zkq (α:=DStmt) (lo0:=w8.heap.size) zf9 zb6 zs9 ju oo (hV.ext g5) oo oo oo (by rw [zaj];simp;omega) so λjw _ gJ jx=>⟨jw,rfl,((U.trans V.upG1).trans g5.upG).trans (gJ.upG oo),?_,?_⟩
         . unfold zli;rw [qah I,qah h0];exact (gI.ext g5).chg gJ oo oo
         unfold zli;rw [qah I,qah h0,zyV he];exact jx.own
       refine ⟨hQ,rfl,U.trans V.upG1,?_,?_⟩
       . unfold zli;rw [qah I,qab h0];exact gI
       unfold zli;rw [qah I,qab h0];exact hV.mono (lr _) hf
     have I:¬k=0:=oo;refine ⟨hQ,rfl,U,?_,?_⟩
     . unfold zli;rw [qab I];exact gH
     unfold zli;rw [qab I];exact hR
   rintro _ hW ⟨jy,hu,gK,hn,jz⟩;try replace hu:=zbv hu
   rw [hu];have jA:=gK.size;have g9:=zag hW;have jB:=g9.size;generalize World.drew1 hW=w22 at *;have Y:UpG g w8.heap.size w8 w22:=gK.trans g9.upG;have gM:=hM.upG Y oo oo;have gl:=gP.upG Y oo oo;have h4:=r8.upG Y oo oo;have jC:=jz.ext g9;have hq:=hn.ext g9;refine XR.mk (λc=>c=g\/w8.heap.size<=c) ?_;have jD:∀ b,w5.heap.size<=b->b<w6.heap.size->¬(b=g\/w8.heap.size<=b):=λb h1 h2=>oo;refine zeN zex<|zfr zqB (u:=vr) (λj v hj=>?_) oo ?_
   . have:=gM.range 2 vr rfl
     match j,hj with
     | 0,hj=>simp at hj;subst hj;simpa using this
     | j+1,hj=>simp at hj
   obtain ⟨_,hr,hs⟩:=zBp (X:=λc=>c=g\/w8.heap.size<=c) (K:=λv=>L[k].size<=maxLen/\v=.string L[k]) gl g3.symm hk jD λh=>⟨h,rfl⟩;refine zlv hr ?_;obtain ⟨_,ht,hv,rfl⟩:=hs;refine RDX.mk _ ht ?_
   have jE:∀ w':wD,(Instr.sliceAt 24 (.slice g2 np C) (some (.int .i64 1)) none none).run tp w'=.ok (.slice (if C=1 then g2 else g2.map (·.add (1*Rep.size ByteArray))) (np-1) (C-1)) w':=λw'=>by
     obtain ⟨a',gX,j7,j8,gy,_,_,_⟩:=zcE gl.is;simp only [Value.slice.injEq] at gy;obtain ⟨rfl,_,rfl⟩:=gy
     have hb:(Instr.sliceBounds true np C (some (.int .i64 1)) none none).run tp w'=.ok (1,np,C) w':=by
       have h1:(1:Int)<=(np:Int):=oo;simp [Instr.sliceBounds,Instr.sliceBound,asIntOf,h1]
     simp [Instr.sliceAt,Instr.slice,run_underlying u24,hb,zaJ ty9];rfl
   refine zlv jE ?_
   have jF:IsK w5.heap.size w6.heap.size w22 (.slice (if C=1 then g2 else g2.map (·.add (1*Rep.size ByteArray))) (np-1) (C-1)) (L.drop 1):=by
     have:=IsK.drop (l:=L) (k:=1) (by rw [g3];exact gl) oo;rwa [g3] at this
   obtain ⟨_,hX,hF⟩:=jC;refine (zyQ _ hq hX (λh=>by have:=hF g h;omega) (λc hc=>by have:=hF c hc;omega) jF oo (λc hc=>by have:=hF c hc;omega) j9 (by rw [qa8];omega)).mono ?_;rintro _ hw ⟨jG,gp,hx,F',hy,hY⟩;rw [jG];have jH:=gp.size;refine ⟨gp.toX λc hc=>?_,?_⟩
   . rcases qaa.1 hc with rfl | hc
     . exact .inl rfl
     exact .inr (hF c hc).1
   have gb:UpG g w8.heap.size w22 hw:=gp.upG λc hc=>(hF c hc).1;have hZ:OwnI w8.heap.size w22.heap.size hw jy (zei bs (L.drop 1) k s1).1:=⟨F',hy,λc hc=>⟨(hF c (hY c hc)).1,hX.lt c (hY c hc)⟩⟩;obtain ⟨_,_,rfl⟩:=zdP hZ;refine zuM (λw'=>zwj) ?_;have jI:=zmr hv hZ;have hz:=gM.upG gb oo oo;have jJ:=h4.upG gb oo oo;refine zpu (α:=DProc) u68 zl1 zHJ zGn qd jJ oo jI oo oo (by rw [zaj];omega) oo (λjK j0 Z gN=>?_) λ_ w' jL h'=>⟨jL.toX,h'⟩;have jM:=Z.size;refine zeN zex ?_;have hB:=hz.chgI Z oo;refine za3 (α:=List DProc) zqB rfl rfl hB sS gN.own λ_ D hD=>?_;have jN:=D.size;refine zau ?_;have gc:UpG g w6.heap.size w8 j0:=((Y.trans gb).mono oo).trans (Z.upG oo);refine ⟨m-1,oo,k+1,oo,rfl,ps++[⟨L[k],(zei bs (L.drop 1) k s1).1⟩],(zei bs (L.drop 1) k s1).2,jK,j0.heap.size,oo,by simp [ja],by rw [gz];simp,?_,?_,hD,?_,?_,?_,gN.chg D oo,oo,oo,?_⟩
   . exact (hx.chg Z oo oo).chg D oo oo
   . have h1:ChgI g (g+1) w hw:=gZ.trans ((Y.trans gb).toI (lr _));exact ChgI.out (ChgI.out h1 Z oo) D oo
   . exact (o7.upG gc oo oo).chg D oo
   . exact (o8.upG gc oo oo).chg D oo
   . exact (gP.upG gc (lr _) oo).chgF D.toC so
   exact (gC.upG gc oo oo).chgI D oo
 have hk:k=L.length:=oo;subst hk;rw [qbB,zb0] at gz;simp only [qaF] at gz
 have jO:zdT bs s=(⟨glb,lks,ps⟩,s1):=by
   unfold zdT;rw [<-hL,gz]
 rw [jO];refine zck hM zlY ?_
 have j1:OwnI w1.heap.size w8.heap.size w8 (.agg #[.slice a7 glb.length g0,.slice a8 lks.length g1,vr]) (⟨glb,lks,ps⟩:DProg):=
   zjx (l0:=w1.heap.size) (h0:=w2.heap.size) (l1:=w2.heap.size) (h1:=w3.heap.size) (l2:=w6.heap.size) (h2:=hi) o7 o8 r8.own oo oo oo oo oo oo
 refine zaz zlY rfl gC rfl j1 λw9 gg jP=>?_;have jc:=gg.size;refine zcl jP zlY<|⟨ChgI.out gZ gg (lr _),hJ.chg gg oo oo,(j1.chg gg oo).mono oo oo⟩
end Go.Proofs.YtkgiigmcbgifdaaGreat
namespace Go.Sh
variable {i j n:Nat} {x:Int}
def za5 (l:List Nat):List Int:=l.map λx:Nat=>(x:Int)
def zah (l:List Nat):(za5 l).length=l.length:=by simp [za5]
def za9 {l:List Nat} (h:i<(za5 l).length):(za5 l)[i]=((l[i]'(by rw [<-zah];exact h):Nat):Int):=by simp [za5]
def zc4 (l m:List Nat):za5 (l++m)=za5 l++za5 m:=by simp [za5]
def zyW (l:List Nat) (k:Nat):za5 (l.take k)=(za5 l).take k:=by simp [za5]
def zBq {l:List Nat}:x∈za5 l↔∃ i∈l,x=(i:Int):=by
 simp only [za5,qa3];exact ⟨λ⟨i,h,e⟩=>⟨i,h,e.symm⟩,λ⟨i,h,e⟩=>⟨i,h,e.symm⟩⟩
def mkd (ms:List Bool) (i:Nat):Prop:=ms.getD i false=true
def zce {ms:List Bool} (h:i<ms.length):mkd ms i↔ms[i]=true:=by
 unfold mkd;rw [List.getD_eq_getElem?_getD,List.getElem?_eq_getElem h];rfl
def zuN {ms:List Bool} (h:mkd ms i):i<ms.length:=by
 rcases qay i ms.length with h' | h'
 . exact h'
 unfold mkd at h;rw [List.getD_eq_getElem?_getD,List.getElem?_eq_none h'] at h;cases h
def zdj {ms:List Bool} (hi:i<ms.length):mkd (ms.set i true) j↔mkd ms j\/j=i:=by
 unfold mkd;rw [List.getD_eq_getElem?_getD,List.getD_eq_getElem?_getD,List.getElem?_set];by_cases h:i=j
 . subst h;simp [hi]
 have:¬j=i:=λe=>h e.symm;simp [h,this]
def zb8:¬mkd (List.replicate n false) i:=by
 unfold mkd;rw [List.getD_eq_getElem?_getD,List.getElem?_replicate];split<;>simp
def zyX {ms ns:List Bool} (hl:ms.length=ns.length) (h:∀ i,i<ms.length->(mkd ms i↔mkd ns i)):ms=ns:=by
 refine qaU hl λi h1 h2=>?_;have:=h i h1;rw [zce h1,zce h2] at this;cases e1:ms[i]<;>cases e2:ns[i]<;>simp_all
def zlw (ms:List Bool):Nat:=ms.count true
def zhu (ms:List Bool):zlw ms<=ms.length:=List.count_le_length
theorem zjy:∀ {ms:List Bool} {i:Nat},i<ms.length->¬mkd ms i->zlw (ms.set i true)=zlw ms+1
 | b :: ms,0,_,h=>by
   have:b=false:=by cases b<;>simp_all [mkd]
   subst this;simp [zlw]
 | b :: ms,i+1,hi,h=>by
   have ih:=zjy (ms:=ms) (i:=i) (by simpa using hi) (by simpa [mkd] using h);simp only [zlw,List.set_cons_succ,List.count_cons] at ih ⊢;omega
inductive RP (nx:Nat->List Nat) (a:Nat):Nat->Prop
 | one {b:Nat} (h:b∈nx a):RP nx a b
 | more {b d:Nat} (h:RP nx a b) (k:d∈nx b):RP nx a d
theorem RP.trans {nx:Nat->List Nat} {a b d:Nat} (h:RP nx a b) (k:RP nx b d):RP nx a d:=by
 induction k with
 | one h1=>exact .more h h1
 | more _ h2 ih=>exact .more ih h2
theorem RP.keeps {nx:Nat->List Nat} {p:Nat->Prop} {a b:Nat} (h:RP nx a b) (ha:p a) (hp:∀ i j,p i->j∈nx i->p j):p b:=by
 induction h with
 | one h=>exact hp _ _ ha h
 | more _ h ih=>exact hp _ _ ih h
structure SInv (nx:Nat->List Nat) (n a:Nat) (M0 ms:List Bool) (td:List Nat) (k:Nat):Prop where
 len:ms.length=n
 sub:∀ i,mkd M0 i->mkd ms i
 src:∀ i,mkd ms i->mkd M0 i\/RP nx a i
 tdo:∀ i∈td,(i=a\/RP nx a i)/\i<n
 clo:∀ i,(i=a\/(mkd ms i/\¬mkd M0 i))->i∈td\/∀ j∈nx i,mkd ms j
 cnt:td.length+k+zlw M0=1+zlw ms
structure SIn2 (nx:Nat->List Nat) (n a:Nat) (M0 ms:List Bool) (td:List Nat) (k x q:Nat):Prop where
 len:ms.length=n
 sub:∀ i,mkd M0 i->mkd ms i
 src:∀ i,mkd ms i->mkd M0 i\/RP nx a i
 tdo:∀ i∈td,(i=a\/RP nx a i)/\i<n
 clo:∀ i,(i=a\/(mkd ms i/\¬mkd M0 i))->i∈td\/(i=x/\∀ j∈(nx x).take q,mkd ms j)\/∀ j∈nx i,mkd ms j
 cnt:td.length+k+1+zlw M0=1+zlw ms
 met:x=a\/RP nx a x
section
variable {nx:Nat->List Nat} {n a k x q:Nat} {M0 ms:List Bool} {td td':List Nat}
def SInv.start (hl:M0.length=n) (ha:a<n):SInv nx n a M0 M0 [a] 0:=
 ⟨hl,λ_ h=>h,λ_ h=>.inl h,λi hi=>by simp only [qaa,qad,qaq] at hi;exact ⟨.inl hi,hi▸ha⟩,λi hi=>by
   rcases hi with rfl | ⟨h1,h2⟩
   . exact .inl sS
   exact absurd h1 h2,sS⟩
def SInv.bound (h:SInv nx n a M0 ms td k):td.length+k<=1+n:=by
 have:=h.cnt;have h2:=zhu ms;rw [h.len] at h2;omega
def SInv.pop (h:SInv nx n a M0 ms td k) (hm:∀ i,i∈td↔i∈td'\/i=x) (hl:td.length=td'.length+1):SIn2 nx n a M0 ms td' k x 0:=
 ⟨h.len,h.sub,h.src,λi hi=>h.tdo i ((hm i).2 (.inl hi)),λi hi=>by
   rcases h.clo i hi with h1 | h1
   . rcases (hm i).1 h1 with h1 | rfl
     . exact .inl h1
     exact .inr (.inl ⟨rfl,sS⟩)
   exact .inr (.inr h1),by have:=h.cnt;omega,(h.tdo x ((hm x).2 (.inr rfl))).1⟩
def SIn2.skip (h:SIn2 nx n a M0 ms td k x q) (hq:q<(nx x).length) (hmk:mkd ms (nx x)[q]):SIn2 nx n a M0 ms td k x (q+1):=
 ⟨h.len,h.sub,h.src,h.tdo,λi hi=>by
   rcases h.clo i hi with h1 | ⟨rfl,h1⟩ | h1
   . exact .inl h1
   . refine .inr (.inl ⟨rfl,λj hj=>?_⟩);rw [tk hq] at hj;rcases qae.1 hj with hj | hj
     . exact h1 j hj
     simp only [qaa,qad,qaq] at hj;rw [hj];exact hmk
   exact .inr (.inr h1),h.cnt,h.met⟩
def SIn2.push (h:SIn2 nx n a M0 ms td k x q) (hq:q<(nx x).length) (hn:(nx x)[q]<n) (g0:¬mkd ms (nx x)[q]):SIn2 nx n a M0 (ms.set (nx x)[q] true) (td++[(nx x)[q]]) k x (q+1):=by
 have hs:=λj=>zdj (ms:=ms) (i:=(nx x)[q]) (j:=j) (by rw [h.len];exact hn)
 have hr:RP nx a (nx x)[q]:=by
   rcases h.met with e | e
   . exact .one (e▸qac hq)
   exact .more e (qac hq)
 refine ⟨by simp [h.len],λi hi=>(hs i).2 (.inl (h.sub i hi)),λi hi=>?_,λi hi=>?_,λi hi=>?_,?_,h.met⟩
 . rcases (hs i).1 hi with h1 | h1
   . exact h.src i h1
   exact .inr (h1▸hr)
 . rcases qae.1 hi with h1 | h1
   . exact h.tdo i h1
   simp only [qaa,qad,qaq] at h1;exact ⟨.inr (h1▸hr),h1▸hn⟩
 . have hi':i=(nx x)[q]\/(i=a\/(mkd ms i/\¬mkd M0 i)):=by
     rcases hi with h1 | ⟨h1,h2⟩
     . exact .inr (.inl h1)
     rcases (hs i).1 h1 with h1 | h1
     . exact .inr (.inr ⟨h1,h2⟩)
     exact .inl h1
   rcases hi' with h1 | h1
   . exact .inl (qba _ (by simp [h1]))
   rcases h.clo i h1 with h1 | ⟨rfl,h1⟩ | h1
   . exact .inl (qaS _ h1)
   . refine .inr (.inl ⟨rfl,λj hj=>?_⟩);rw [tk hq] at hj;rcases qae.1 hj with hj | hj
     . exact (hs j).2 (.inl (h1 j hj))
     simp only [qaa,qad,qaq] at hj;exact (hs j).2 (.inr hj)
   exact .inr (.inr λj hj=>(hs j).2 (.inl (h1 j hj)))
 have:=h.cnt;rw [zjy (by rw [h.len];exact hn) g0,qag];simp only [qak,qaC];omega
def SIn2.done (h:SIn2 nx n a M0 ms td k x q) (hq:(nx x).length<=q):SInv nx n a M0 ms td (k+1):=
 ⟨h.len,h.sub,h.src,h.tdo,λi hi=>by
   rcases h.clo i hi with h1 | ⟨rfl,h1⟩ | h1
   . exact .inl h1
   . rw [qaf hq] at h1;exact .inr h1
   exact .inr h1,by have:=h.cnt;omega⟩
theorem SInv.fin (h:SInv nx n a M0 ms [] k) (hc:∀ i,mkd M0 i->i≠a->∀ j∈nx i,mkd M0 j) (i:Nat):mkd ms i↔mkd M0 i\/RP nx a i:=by
 refine ⟨h.src i,λhi=>?_⟩;rcases hi with hi | hi
 . exact h.sub i hi
 have g0:∀ b,(b=a\/mkd ms b)->∀ j∈nx b,mkd ms j:=λb hb=>by
   by_cases hba:b=a
   . rcases h.clo b (.inl hba) with h1 | h1
     . cases h1
     exact h1
   have hb:=hb.resolve_left hba;by_cases hm:mkd M0 b
   . exact λj hj=>h.sub j (hc b hm hba j hj)
   rcases h.clo b (.inr ⟨hb,hm⟩) with h1 | h1
   . cases h1
   exact h1
 induction hi with
 | one h1=>exact g0 a (.inl rfl) _ h1
 | more _ h2 ih=>exact g0 _ (.inr ih) _ h2
end
noncomputable def zdQ (n:Nat) (p:Nat->Prop):List Bool:=(List.range n).map λi=>@decide (p i) (Classical.propDecidable _)
noncomputable def zbK (n:Nat) (p:Nat->Prop):List Nat:=(List.range n).filter λi=>@decide (p i) (Classical.propDecidable _)
noncomputable def zc0 (p:Nat->Prop):Nat->Nat
 | 0=>0
 | n+1=>zc0 p n ||| (if @decide (p n) (Classical.propDecidable _) then 2^n else 0)
section
variable {n:Nat} {p q:Nat->Prop}
def zaM:(zdQ n p).length=n:=by simp [zdQ]
def zcs {i:Nat}:mkd (zdQ n p) i↔i<n/\p i:=by
 constructor
 . intro h;have hl:=zuN h;rw [zce hl] at h;rw [zaM] at hl;refine ⟨hl,?_⟩;simpa [zdQ] using h
 rintro ⟨h1,h2⟩;rw [zce (by rw [zaM];exact h1)];simpa [zdQ] using h2
def zcT {ms:List Bool} (hl:ms.length=n) (h:∀ i,i<n->(mkd ms i↔p i)):ms=zdQ n p:=
 zyX (by rw [hl,zaM]) λi hi=>by
   rw [zcs,h i (hl▸hi)];exact ⟨λh=>⟨hl▸hi,h⟩,λh=>h.2⟩
def zbW (h:∀ i,i<n->(p i↔q i)):zdQ n p=zdQ n q:=zcT zaM λi hi=>by rw [zcs,<-h i hi];exact ⟨λh=>h.2,λh=>⟨hi,h⟩⟩
def zaI {i:Nat}:i∈zbK n p↔i<n/\p i:=by simp [zbK]
def zh1 (h:∀ i,i<n->(p i↔q i)):zbK n p=zbK n q:=by
 refine List.filter_congr λi hi=>?_;have:=h i (qaG.1 hi);by_cases hp:p i
 . simp [hp,this.1 hp]
 have hq:¬q i:=λhq=>hp (this.2 hq);simp [hp,hq]
def zrk:zbK (n+1) p=zbK n p++(if @decide (p n) (Classical.propDecidable _) then [n] else []):=by
 simp only [zbK,qbU,qbq,List.filter_cons,List.filter_nil]
def zel (h:p n):zbK (n+1) p=zbK n p++[n]:=by rw [zrk];simp [h]
def zeO (h:¬p n):zbK (n+1) p=zbK n p:=by rw [zrk];simp [h]
def zbz:(zbK n p).length<=n:=qat (qbK _ _) sS
theorem za6 {i:Nat}:(zc0 p n).testBit i=true↔i<n/\p i:=by
 induction n with
 | zero=>simp [zc0]
 | succ n ih=>
   rw [zc0,qaV,qaR,ih];by_cases hp:p n
   . simp only [hp,qa6,if_true,qaN,qau];constructor
     . rintro (⟨h1,h2⟩ | rfl)
       . exact ⟨oo,h2⟩
       exact ⟨oo,hp⟩
     rintro ⟨h1,h2⟩;rcases qa9 (qbw.1 h1) with h | h
     . exact .inl ⟨h,h2⟩
     exact .inr h.symm
   simp only [hp,qam,qa4,if_false,qcj,qaq];constructor
   . rintro ⟨h1,h2⟩;exact ⟨oo,h2⟩
   rintro ⟨h1,h2⟩;rcases qa9 (qbw.1 h1) with h | h
   . exact ⟨h,h2⟩
   exact absurd (h▸h2) hp
def zkv:zc0 p n<2^n:=by
 refine qcP _ λi _=>?_;cases h:(zc0 p n).testBit i
 . rfl
 have:=(za6.1 h).1;omega
def zeP {m:Nat} (h:∀ i,m.testBit i=true↔i<n/\p i):m=zc0 p n:=
 qbi λi=>by
   have h1:=h i;rw [<-za6] at h1;cases e1:m.testBit i<;>cases e2:(zc0 p n).testBit i<;>simp_all
def zbE (h:∀ i,i<n->(p i↔q i)):zc0 p n=zc0 q n:=zeP λi=>by
 rw [za6];exact ⟨λ⟨h1,h2⟩=>⟨h1,(h i h1).1 h2⟩,λ⟨h1,h2⟩=>⟨h1,(h i h1).2 h2⟩⟩
end
end Go.Sh
namespace Go.Sh
variable {i n:Nat}
def FWy (nx:Nat->List Nat):Nat->Nat->Nat->Prop
 | 0,i,j=>j∈nx i
 | m+1,i,j=>FWy nx m i j\/(FWy nx m i m/\FWy nx m m j)
section
variable {nx:Nat->List Nat} {n m i j k:Nat}
theorem FWy.rp:∀ {m i j:Nat},FWy nx m i j->RP nx i j
 | 0,_,_,h=>.one h
 | m+1,_,_,h=>by
   rcases h with h | ⟨h1,h2⟩
   . exact FWy.rp h
   exact (FWy.rp h1).trans (FWy.rp h2)
theorem FWy.up (h:j∈nx i):∀ m,FWy nx m i j
 | 0=>h
 | m+1=>.inl (FWy.up h m)
def FWy.old {m i:Nat} (h:FWy nx (m+1) i m):FWy nx m i m:=by
 rcases h with h | ⟨h,_⟩<;>exact h
def FWy.old' {m j:Nat} (h:FWy nx (m+1) m j):FWy nx m m j:=by
 rcases h with h | ⟨_,h⟩<;>exact h
theorem FWy.cat:∀ {m i j k:Nat},j<m->FWy nx m i j->FWy nx m j k->FWy nx m i k
 | m+1,i,j,k,hj,h1,h2=>by
   rcases qa9 (qbw.1 hj) with hl | rfl
   . rcases h1 with a | ⟨a,b⟩
     . rcases h2 with c | ⟨c,d⟩
       . exact .inl (FWy.cat hl a c)
       exact .inr ⟨FWy.cat hl a c,d⟩
     rcases h2 with c | ⟨c,d⟩
     . exact .inr ⟨a,FWy.cat hl b c⟩
     exact .inr ⟨a,d⟩
   exact .inr ⟨h1.old,h2.old'⟩
theorem FWy.iff (hn:∀ i j,j∈nx i->i<n/\j<n):FWy nx n i j↔RP nx i j:=by
 refine ⟨FWy.rp,λh=>?_⟩
 induction h with
 | one h=>exact FWy.up h n
 | more _ h2 ih=>exact FWy.cat (hn _ _ h2).1 ih (FWy.up h2 n)
theorem zHt (hn:∀ i j,j∈nx i->i<n/\j<n) (h:RP nx i j):i<n/\j<n:=by
 induction h with
 | one h=>exact hn _ _ h
 | more _ h2 ih=>exact ⟨ih.1,(hn _ _ h2).2⟩
end
theorem zmu {p q:Nat->Prop}:∀ n,(zbK n p).length=(zbK n λi=>p i/\q i).length+(zbK n λi=>p i/\¬q i).length
 | 0=>rfl
 | n+1=>by
   have ih:=zmu (p:=p) (q:=q) n;by_cases hp:p n
   . by_cases hq:q n
     . rw [zel hp,zel (p:=λi=>p i/\q i) ⟨hp,hq⟩,zeO (p:=λi=>p i/\¬q i) λh=>h.2 hq];simp only [qag,qcc];omega
     rw [zel hp,zeO (p:=λi=>p i/\q i) λh=>hq h.2,zel (p:=λi=>p i/\¬q i) ⟨hp,hq⟩];simp only [qag,qcc];omega
   rw [zeO hp,zeO (p:=λi=>p i/\q i) λh=>hp h.1,zeO (p:=λi=>p i/\¬q i) λh=>hp h.1];exact ih
def zjz {p:Nat->Prop} (hi:i<n) (hp:p i):0<(zbK n p).length:=qb4 (zaI.2 ⟨hi,hp⟩)
def zrl {n x:Nat} {p q:Nat->Prop} (h:∀ i,i<n->p i->q i) (hx:x<n) (hq:q x) (hp:¬p x):(zbK n p).length<(zbK n q).length:=by
 have h1:=zmu (p:=q) (q:=p) n;have h2:(zbK n λi=>q i/\p i)=zbK n p:=zh1 λi hi=>⟨λh=>h.2,λk=>⟨h i hi k,k⟩⟩;have:=zjz (p:=λi=>q i/\¬p i) hx ⟨hq,hp⟩;rw [h2] at h1;omega
section
variable (n:Nat) (way:Nat->Nat->Prop)
def zcC (i j:Nat):Prop:=j=i\/(way i j/\way j i)
def OkC (told:Nat->Prop) (i:Nat):Prop:=i<n/\¬told i/\∀ j,j<n->way i j->way j i\/told j
open Classical in
noncomputable def zgW (told:Nat->Prop):Option Nat:=(List.range n).find? λi=>decide (OkC n way told i)
def ziR (told:Nat->Prop) (i j:Nat):Prop:=told j\/zcC way i j
noncomputable def zey:Nat->(Nat->Prop)->List (List Nat)
 | 0,_=>[]
 | f+1,told=>match zgW n way told with
   | none=>[]
   | some i=>zbK n (zcC way i) :: zey f (ziR way told i)
noncomputable def zeu (told:Nat->Prop):Nat:=(zbK n λi=>¬told i).length
noncomputable def zrm:List (List Nat):=zey n way n λ_=>False
def Whole (told:Nat->Prop):Prop:=∀ i j,told j->way i j->way j i->told i
end
section
variable {n:Nat} {way:Nat->Nat->Prop} {told:Nat->Prop} {i f:Nat}
def zh2:zgW n way told=none↔∀ i,¬OkC n way told i:=by
 unfold zgW;rw [List.find?_eq_none];simp only [qaG,qau];exact ⟨λh i hi=>h i hi.1 hi,λh i _=>h i⟩
def zh3 (h:zgW n way told=some i):OkC n way told i:=by
 unfold zgW at h;simpa using List.find?_some h
theorem zkw (h:OkC n way told i) (hm:∀ j,j<i->¬OkC n way told j):zgW n way told=some i:=by
 cases e:zgW n way told with
 | none=>exact absurd h (zh2.1 e i)
 | some k=>
   have hk:=zh3 e;unfold zgW at e;rw [List.find?_eq_some_iff_append] at e;obtain ⟨_,l1,_,hr,ha⟩:=e;rcases qcy i k with hl | rfl | hl
   . exfalso;have h1:(List.range n)[l1.length]?=some k:=by rw [hr];simp
     have:l1.length=k:=by
       obtain ⟨h3,h4⟩:=List.getElem?_eq_some_iff.1 h1;simpa using h4
     have h3:i∈l1:=by
       have h4:(List.range n)[i]?=some i:=by simp [h.1]
       rw [hr,List.getElem?_append_left oo] at h4;exact List.mem_of_getElem? h4
     simpa [h] using ha i h3
   . rfl
   exact absurd hk (hm k hl)
def zwl (hi:i<n) (h:¬told i):zeu n (ziR way told i)<zeu n told:=
 zrl (λj _ hj=>λhj'=>hj (.inl hj')) hi h λhj=>hj (.inr (.inl rfl))
theorem ziS (h:zgW n way told=none):zey n way f told=[]:=by
 cases f with
 | zero=>rfl
 | succ f=>simp only [zey,h]
theorem ziT (hf:zeu n told<=f) (h:zgW n way told=some i):∃ f',zey n way f told=zbK n (zcC way i) :: zey n way f' (ziR way told i)/\zeu n (ziR way told i)<=f'/\f=f'+1:=by
 have ho:=zh3 h;have:=zwl (way:=way) ho.1 ho.2.1;cases f with
 | zero=>omega
 | succ f=>exact ⟨f,by simp only [zey,h],oo,rfl⟩
def zlx:zeu n told<=n:=zbz
def zwm (h:zeu n told=0):zgW n way told=none:=zh2.2 λi hi=>by
 have:=zjz (p:=λi=>¬told i) hi.1 hi.2.1;unfold zeu at h;omega
def Whole.start:Whole way λ_=>False:=λ_ _ h _ _=>h
def Whole.more (ht:∀ i j k,way i j->way j k->way i k) (h:Whole way told):Whole way (ziR way told i):=λa b hb h1 h2=>by
 rcases hb with hb | rfl | ⟨h3,h4⟩
 . exact .inl (h a b hb h1 h2)
 . exact .inr (.inr ⟨h2,h1⟩)
 exact .inr (.inr ⟨ht _ _ _ h3 h2,ht _ _ _ h1 h4⟩)
def zuO (h:Whole way told) (hi:¬told i):zeu n told=zeu n (ziR way told i)+(zbK n (zcC way i)).length:=by
 have h1:=zmu (p:=λj=>¬told j) (q:=zcC way i) n
 have h2:(zbK n λj=>¬told j/\zcC way i j)=zbK n (zcC way i):=zh1 λj _=>⟨λh=>h.2,λhp=>⟨λhj=>by
   rcases hp with rfl | ⟨h3,h4⟩
   . exact hi hj
   exact hi (h i j hj h3 h4),hp⟩⟩
 have h3:(zbK n λj=>¬told j/\¬zcC way i j)=zbK n λj=>¬ziR way told i j:=zh1 λj _=>by
   unfold ziR;exact not_or.symm
 rw [h2,h3] at h1;unfold zeu;omega
theorem zrn (ht:∀ i j k,way i j->way j k->way i k):∀ (m i:Nat),(zbK n λj=>j=i\/way i j).length<=m->i<n->¬told i->∃ j,OkC n way told j
 | 0,i,hm,hi,hti=>by have:=zjz (p:=λj=>j=i\/way i j) hi (.inl rfl);omega
 | m+1,i,hm,hi,hti=>by
   by_cases ho:OkC n way told i
   . exact ⟨i,ho⟩
   have:∃ j,j<n/\way i j/\¬way j i/\¬told j:=by
     refine qa1 λg0=>ho ⟨hi,hti,λj hj hw=>?_⟩;refine qa1 λhx=>g0 ⟨j,hj,hw,λh=>hx (.inl h),λh=>hx (.inr h)⟩
   obtain ⟨j,hj,hw,hb,g1⟩:=this
   have hlt:(zbK n λk=>k=j\/way j k).length<(zbK n λk=>k=i\/way i k).length:=by
     refine zrl (x:=i) (λk _ hk=>?_) hi (.inl rfl) ?_
     . rcases hk with rfl | hk
       . exact .inr hw
       exact .inr (ht _ _ _ hw hk)
     rintro (rfl | h)
     . exact hb hw
     exact hb h
   exact zrn ht m j oo hj g1
theorem zoo (ht:∀ i j k,way i j->way j k->way i k) (h:0<zeu n told):∃ i,zgW n way told=some i:=by
 unfold zeu at h;obtain ⟨i,hi⟩:=List.exists_mem_of_length_pos h;obtain ⟨h1,h2⟩:=zaI.1 hi;obtain ⟨j,hj⟩:=zrn ht _ i (lr _) h1 h2;cases e:zgW n way told with
 | none=>exact absurd hj (zh2.1 e j)
 | some k=>exact ⟨k,rfl⟩
theorem zkx:∀ {f:Nat} {told:Nat->Prop},Whole way told->(ht:∀ i j k,way i j->way j k->way i k)->∀ p∈zey n way f told,∃ i,i<n/\¬told i/\p=zbK n (zcC way i)
 | 0,_,_,_,p,hp=>by cases hp
 | f+1,told,hw,ht,p,hp=>by
   simp only [zey] at hp;cases e:zgW n way told with
   | none=>rw [e] at hp;cases hp
   | some i=>
     rw [e] at hp;have ho:=zh3 e;rcases qaa.1 hp with rfl | hp
     . exact ⟨i,ho.1,ho.2.1,rfl⟩
     obtain ⟨j,h1,h2,h3⟩:=zkx (hw.more ht) ht p hp;exact ⟨j,h1,λh=>h2 (.inl h),h3⟩
theorem zro:∀ {f:Nat} {told:Nat->Prop},Whole way told->(ht:∀ i j k,way i j->way j k->way i k)->(zey n way f told).Pairwise λa b=>∀ x∈a,x∉b
 | 0,_,_,_=>.nil
 | f+1,told,hw,ht=>by
   simp only [zey];cases e:zgW n way told with
   | none=>exact .nil
   | some i=>
     refine qaZ.2 ⟨λp hp x hx hxp=>?_,zro (hw.more ht) ht⟩;obtain ⟨j,h1,h2,rfl⟩:=zkx (hw.more ht) ht p hp;have h3:=(zaI.1 hx).2;have h4:=(zaI.1 hxp).2;rcases h4 with rfl | ⟨h5,h6⟩
     . exact h2 (.inr h3)
     exact h2 ((hw.more (i:=i) ht) j x (.inr h3) h5 h6)
theorem zop:∀ {f:Nat} {told:Nat->Prop},(zey n way f told).length<=f
 | 0,_=>qaz _
 | f+1,told=>by
   simp only [zey];cases zgW n way told with
   | none=>simp
   | some i=>simp only [qak];have:=zop (f:=f) (told:=ziR way told i);omega
def zEI (h:i<n):zbK n (zcC way i)≠[]:=List.ne_nil_of_mem (zaI.2 ⟨h,.inl rfl⟩)
end
end Go.Sh
namespace Go.Proofs.YtkgiigmcbgifdaaGreat
open Go Go.Sh Go.Proofs
open Rep (rep)
variable {K:vL->Prop} {P:pG} {b hi i j lo n ng nl o:Nat} {w w0:wD}
structure DArc where
 fr:Int
 to:Int
def DArc.ext_iff {x y:DArc}:x=y↔(x.fr=y.fr/\x.to=y.to):=⟨λh=>by rw [h];exact ⟨rfl,rfl⟩,λh=>by obtain ⟨h0,h1⟩:=h;cases x;cases y;simp only at h0 h1;simp only [h0,h1]⟩
instance:DecidableEq DArc:=λx y=>decidable_of_iff (x.fr=y.fr/\x.to=y.to) DArc.ext_iff.symm
instance:Rep DArc:=Rep.via λx=>(x.fr,x.to)
def zhv {x:DArc} (h:At w b o x):At w b (o+0) x.fr:=zcn (α:=Int) (β:=Int) (p:=(x.fr,x.to)) h
def zhw {x:DArc} (h:At w b o x):At w b (o+1) x.to:=za7 (α:=Int) (β:=Int) (p:=(x.fr,x.to)) h
instance:RepZ DArc:=⟨⟨(RepZ.zv:Int),(RepZ.zv:Int)⟩,RepZ.zc (Int×Int),λw=>RepZ.zr (α:=Int×Int) w⟩
def zEJ {x:DArc} (h_fr:I64 x.fr) (h_to:I64 x.to):Mine [] w (.agg #[.int .i64 x.fr,.int .i64 x.to]) x:=⟨⟨[.int .i64 x.fr,.int .i64 x.to],⟨[],[],[.int .i64 x.fr],[.int .i64 x.to],rfl,rfl,⟨rfl,rfl,h_fr⟩,⟨rfl,rfl,h_to⟩⟩,rfl⟩,qav,Wr.nil w⟩
instance:Flat DArc:=⟨λh=>Flat.flat (α:=Int×Int) h⟩
noncomputable def nxA (n:Nat) (A:List DArc) (i:Nat):List Nat:=zbK n λj=>i<n/\(⟨i,j⟩:DArc)∈A
def zDu {A:List DArc}:∀ i j,j∈nxA n A i->i<n/\j<n:=λi j h=>by
 obtain ⟨h1,h2⟩:=zaI.1 h;exact ⟨h2.1,h1⟩
def zuP (nx:Nat->List Nat) (p:List Nat):Prop:=∃ x∈p,RP nx x x
def zxq (L:List DSign) (i:Nat):List (List Nat)->List DProc
 | []=>[]
 | ks :: r=>⟨sgT L (i+1),zqC L (i+3) ks⟩ :: zxq L (i+4+3*ks.length) r
structure PrcS (L:List DSign) (i:Nat) (ks:List Nat):Prop where
 word:sgT L i=ByteArray.mk #[112,114,111,99]
 name:named L (i+1)=true
 size:(sgT L (i+1)).size<=maxLen
 open_:sgT L (i+2)=ByteArray.mk #[123]
 row:RowS L (i+3) ks
 close:sgT L (i+3+3*ks.length)=ByteArray.mk #[125]
 lt:i+3+3*ks.length<L.length
inductive PrcsS (L:List DSign):Nat->List (List Nat)->Prop
 | nil {i:Nat} (h:L.length<=i):PrcsS L i []
 | cons {i:Nat} {ks:List Nat} {r:List (List Nat)} (h:PrcS L i ks) (t:PrcsS L (i+4+3*ks.length) r):PrcsS L i (ks :: r)
def zG3:zcu tp 72=some [.int .i64 0,.int .i64 0]:=by kernel_rfl
def zHu:zcu tp 139=some [.string nO,.slice none 0 0]:=by kernel_rfl
def zuQ:OwnI lo hi w (.agg #[.int .i64 0,.int .i64 0]) (⟨0,0⟩:DArc):=⟨[],zEJ (x:=⟨0,0⟩) zjv zjv,sS⟩
def zto {s:ByteArray} {L:List DSign} {N:List (List Nat)}
   (gK:∀ w:wD,CALL tp 90 [.string s] w λr w'=>Ext w w'/\∃ g v e W,r=.pointer (some ⟨g,0,none⟩)/\w.heap.size<=g/\g<w'.heap.size/\RdS W g L v e 0 60 w')
   (hg:LstS L 0 ng (ByteArray.mk #[103,108,111,98,97,108,115])) (hl:LstS L (2*ng+1) nl (ByteArray.mk #[108,111,99,107,115])) (hp:PrcsS L (2*ng+1+2*nl+1) N) (hN:N.length<=8) :
   CALL tp 40 [.string s] w0 λr w'=>Ext w0 w'/\∃ a,r=.tuple #[a,.agg #[.int .i64 0,.int .i64 0]]/\OwnI w0.heap.size w'.heap.size w' a (⟨zmq L 0 ng,zmq L (2*ng+1) nl,zxq L (2*ng+1+2*nl+1) N⟩:DProg):=by
 have hng:=hg.most;have hnl:=hl.most;refine co (g:=kf [(7,8787503087616,[]),(14,18446744073709518912,[])] [(4,18446744073709518912,[])] [(4,[0,1,2,3,4,5,6,7,8,9,10,11,12,13,14,15,16,17],0),(15,[0,1,2,3,4,5,6],32)]) Tryz.func40 ?_;refine zaL zGk λw1 ha hb=>?_;have hs1:=ha.size;have hb1:=hb.lt;refine zaL zG3 λw2 gJ hf=>?_;have hs2:=gJ.size;have hb2:=hf.lt;refine (gK w2).mono ?_;rintro _ w3 ⟨gE,g,v,e,W,rfl,_,hx,h3⟩;have hs3:=gE.size;refine (zom h3 hg hx).mono ?_;rintro _ w4 ⟨hh,h4,r4⟩;have hs4:=hh.size;have o4:=r4.own;obtain ⟨a7,I,rfl⟩:=zdP o4;refine zaF (cells:=#[.slice a7 (zmq L 0 ng).length I,.slice none 0 0,.slice none 0 0]) kK<|zaL zGk λ_ gi hj=>?_;have hs5:=gi.size;have hb5:=hj.lt;refine zaz (x:=(⟨zmq L 0 ng,[],[]⟩:DProg)) (lo:=w3.heap.size) (hi:=w4.heap.size) zlY rfl hj rfl (zjx (l0:=w3.heap.size) (h0:=w4.heap.size) (l1:=w4.heap.size) (h1:=w4.heap.size) (l2:=w4.heap.size) (h2:=w4.heap.size) (o4.ext gi) zb1 zb1 oo oo oo oo oo oo) λw6 gF hk=>?_;have hs6:=gF.size;have o6:=(o4.ext gi).chg gF (.inl (lr _));have h6:=(h4.step gi).chg gF oo;rw [show 0+2*ng+1=2*ng+1 by omega] at h6;refine (zom h6 hl oo).mono ?_;rintro gd w7 ⟨gG,h7,r7⟩;have hs7:=gG.size;have hy:=hk.keep (gG.block _ hk.lt (.inr oo));have hz:=o6.chg gG (.inr oo);refine zaa zn7<|za3 (α:=List ByteArray) zdt rfl rfl hy sS r7.own λw8 gj gM=>?_;have hs8:=gj.size;have h8:=h7.chg gj oo;have hB:=hz.chg gj (.inl oo);have hC:=r7.own.chg gj (.inr oo);have gM:Blk w4.heap.size 70 w8 [.slice a7 (zmq L 0 ng).length I,gd,.slice none 0 0]:=gM;have hD:w1.heap.size<g:=oo;have O:ChgI g (g+1) w3 w8:=ChgI.out ((ChgI.out (hh.trans gi.toI) gF oo).trans gG) gj oo;have hF:Blk w0.heap.size 70 w8 [.slice none 0 0,.slice none 0 0,.slice none 0 0]:=((hb.ext gJ).ext gE).keep (O.block _ oo (.inl oo));have hG:Blk w1.heap.size 72 w8 [.int .i64 0,.int .i64 0]:=(hf.ext gE).keep (O.block _ oo (.inl oo));have gN:Ext w0 w8:=(ha.t (gJ.t gE)).chgI O oo;generalize hi0:2*ng+1+2*nl+1=i0 at *
 refine JOIN.mk (λus w'=>us=[]/\∃ i left vr hi,RdS W g L v e i left w'/\True/\Ext w0 w'/\w8.heap.size<=w'.heap.size/\Blk w0.heap.size 70 w' [.slice none 0 0,.slice none 0 0,.slice none 0 0]/\Blk w1.heap.size 72 w' [.int .i64 0,.int .i64 0]/\Blk w4.heap.size 70 w' [.slice a7 (zmq L 0 ng).length I,gd,vr] /\
   OwnI w3.heap.size w4.heap.size w' (.slice a7 (zmq L 0 ng).length I) (zmq L 0 ng)/\OwnI w6.heap.size w7.heap.size w' gd (zmq L (2*ng+1) nl)/\RowI w8.heap.size hi 139 w' vr (zxq L i0 N)/\w8.heap.size<=hi/\hi<=w'.heap.size) ?_ ?_
 . refine zap N.length (λk us w'=>us=[]/\∃ (i left:Nat) (ps:List DProc) (r:List (List Nat)) (vr:vL) (hi:Nat),RdS W g L v e i left w'/\PrcsS L i r/\zxq L i0 N=ps++zxq L i r/\ps.length=k/\k+r.length=N.length/\Ext w0 w'/\w8.heap.size<=w'.heap.size/\Blk w0.heap.size 70 w' [.slice none 0 0,.slice none 0 0,.slice none 0 0]/\Blk w1.heap.size 72 w' [.int .i64 0,.int .i64 0]/\Blk w4.heap.size 70 w' [.slice a7 (zmq L 0 ng).length I,gd,vr] /\
     OwnI w3.heap.size w4.heap.size w' (.slice a7 (zmq L 0 ng).length I) (zmq L 0 ng)/\OwnI w6.heap.size w7.heap.size w' gd (zmq L (2*ng+1) nl)/\RowI w8.heap.size hi 139 w' vr ps/\w8.heap.size<=hi/\hi<=w'.heap.size) 0 (z0 _)
     ⟨rfl,i0,60,[],N,_,w8.heap.size,h8,hp,rfl,rfl,sS,gN,lr _,hF,hG,gM,hB,hC,zb7 _ _ _ _,lr _,qaz _⟩ ?_
   rintro k m _ w9 _ ⟨-,i,left,ps,r,vr,hi,h9,hq,gl,hH,hI,V,gO,gp,gf,gg,gH,gI,gq,hr,hJ⟩;have U:=zag w9;have hsd:=U.size;have hd:=h9.step U;refine NIL.mk rfl<|zaa zl0<|zaa zq3<|zan ty3 hd.blk rfl<|zai<|br (λ_=>?_) (λhn=>absurd rfl hn);refine NIL.mk rfl<|zaa zeF<|zan ty3 hd.blk rfl<|NIL.mk rfl<|zaa ziE<|zan zs6 hd.blk rfl<|zae zBc hd.is_<|zaf<|br (λ_=>?_) (λ_=>?_)
   case refine_2=>
     have hK:r=[]:=by
       cases hq with
       | nil _=>rfl
       | cons h _=>have:=h.lt;omega
     subst hK;have hL:zxq L i0 N=ps:=by rw [gl];simp [zxq]
     rw [hL];exact ⟨rfl,i,left,vr,hi,hd,trivial,V.t U,oo,gp.ext U,gf.ext U,gg.ext U,gH.ext U,gI.ext U,gq.ext U,hr,oo⟩
   cases hq with
   | nil h=>omega
   | cons hc ht=>
     rename_i ks r;have hM:=hc.lt;have hO:=hc.row.many;simp only [qak] at hI;have hP:=gq.ext U;have hQ:=gg.ext U;refine JOIN.mk (λus w'=>us=[]/\Ext (World.drew1 w9) w') ?_ ?_
     . refine (zdI hd).mono ?_;rintro _ _ ⟨gP,rfl⟩;refine br (λ_=>?_) (λhn=>absurd ⟨oo,hc.word⟩ hn);refine zaa zex<|zan zqB (hQ.ext gP) rfl<|zae u68 (hP.ext gP).is<|zai<|br (λhe=>absurd he oo) (λ_=>⟨rfl,gP⟩)
     rintro _ hR ⟨-,g4⟩;have gQ:=g4.size;have hS:=hd.step g4;refine (zeM hS oo hc.word).mono ?_;rintro _ _ ⟨gr,hV⟩;have hW:=gr.size;refine (zks hV hc.name).mono ?_;rintro _ hX ⟨gs,hY,rfl⟩;have hZ:=gs.size;refine zaF (cells:=#[.string (sgT L (i+1)),.slice none 0 0]) kK<|zaL zHu λ_ g5 gt=>?_;have j0:=g5.size;have j1:=gt.lt;refine zaz (x:=(⟨sgT L (i+1),[]⟩:DProc)) (lo:=0) (hi:=0) zl1 rfl gt rfl (zmr hc.size zb1) λ_ g9 gx=>?_;have j2:=g9.size;have j3:=(hY.step g5).chg g9 oo;refine (zeM j3 oo hc.open_).mono ?_;rintro _ _ ⟨gb,gh⟩;have j4:=gb.size;have gy:=gx.keep (gb.block _ gx.lt (.inr oo));refine NIL.mk rfl<|zaa zpm<|za3 (α:=Int) (lo:=0) (hi:=0) ty3 rfl rfl gh.blk (by simp [zge]) (zbI io) λhs X gR=>?_;have j5:=X.size;have j6:RdS W g L v e (i+3) 60 hs:=⟨gh.is_,gh.ext.chgI X gh.lo,gh.lo,gR,gh.many⟩;have gz:=gy.keep (X.block _ gy.lt (.inr oo));refine (ztm (room:=6) j6 hc.row hO (lr _) oo).mono ?_;rintro v18 j7 ⟨gc,j8,hu⟩;have j9:=gc.size;have gS:=gz.keep (gc.block _ gz.lt (.inr oo));refine zaa zpo<|za3 (α:=List DStmt) zd6 rfl rfl gS sS hu.own λja Y Z=>?_;have jb:=Y.size;have Z:Blk hX.heap.size 139 ja [.string (sgT L (i+1)),v18]:=Z;have jc:=j8.chg Y oo;have jd:=hu.own.chg Y (.inr oo);refine (zeM jc hM hc.close).mono ?_;rintro _ je ⟨g0,jf⟩;have jg:=g0.size;have gU:=Z.keep (g0.block _ Z.lt (.inr oo));have jh:=jd.chg g0 (.inr oo);have g3:ChgI g (g+1) w9 je:=(ChgI.out (((ChgI.out ((((U.t g4).toI.trans gr).trans gs).trans g5.toI) g9 oo).trans gb).trans X |>.trans gc) Y oo).trans g0;have hsA:=g3.size;have gV:=gg.keep (g3.block _ gg.lt (.inr oo));have ji:=gq.chg g3 (.inr oo);refine zaa zex<|zan zqB gV rfl<|zck gU zl1<|zbM (lo2:=hs.heap.size) (hi2:=j7.heap.size) (x:=(⟨sgT L (i+1),zqC L (i+3) ks⟩:DProc)) u68 zl1 zHJ zGn qd ji oo (zmr hc.size jh) oo oo (by rw [zaj];omega) oo λjj jk C gC=>?_;have jl:=C.size;refine zaa zex ?_;have gW:=gV.keep (C.block _ gV.lt (.inl oo));refine za3 (α:=List DProc) zqB rfl rfl gW sS gC.own λ_ D gX=>?_;have jm:=D.size;have hv:=(jf.chg C oo).chg D oo;rw [show i+3+3*ks.length+1=i+4+3*ks.length by omega] at hv;refine ⟨m-1,oo,k+1,oo,rfl,_,_,ps++[⟨sgT L (i+1),zqC L (i+3) ks⟩],r,jj,jk.heap.size,hv,ht,by rw [gl];simp [zxq],by simp [hH],oo,?_,oo,?_,?_,gX,?_,?_,gC.chg D (.inr oo),oo,oo⟩
     . exact ((V.chgI g3 oo).chgI C oo).chgI D oo
     . exact ((gp.keep (g3.block _ gp.lt (.inl oo))).keep (C.block _ oo (.inl oo))).keep (D.block _ oo (.inl oo))
     . exact ((gf.keep (g3.block _ gf.lt (.inl oo))).keep (C.block _ oo (.inl oo))).keep (D.block _ oo (.inl oo))
     . exact ((gH.chg g3 (.inr oo)).chg C (.inl oo)).chg D (.inl oo)
     exact ((gI.chg g3 (.inr oo)).chg C (.inl oo)).chg D (.inr oo)
 rintro _ w9 ⟨-,_,_,vr,hi,h9,-,V,gO,gp,gf,gg,gH,gI,gq,hr,hJ⟩;refine NIL.mk rfl<|zaa zl0<|zaa zq3<|zan ty3 h9.blk rfl<|zaT<|br (λh=>absurd rfl h) (λ_=>?_);refine zck gg zlY<|zaF (cells:=#[.int .i64 0,.int .i64 0]) kK ?_
 have hw:OwnI w3.heap.size w9.heap.size w9 (.agg #[.slice a7 (zmq L 0 ng).length I,gd,vr]) (⟨zmq L 0 ng,zmq L (2*ng+1) nl,zxq L i0 N⟩:DProg):=
   zjx (l0:=w3.heap.size) (h0:=w4.heap.size) (l1:=w6.heap.size) (h1:=w7.heap.size) (l2:=w8.heap.size) (h2:=hi) gH gI gq.own oo oo oo oo oo oo
 refine zaz zlY rfl gp rfl hw λ_ g1 gD=>?_;have jn:=g1.size;have gY:=gf.keep (g1.block _ gf.lt (.inr oo));refine zaz (α:=DArc) (lo:=0) (hi:=0) zEq rfl gY rfl zuQ λhR g2 gZ=>?_;have gQ:=g2.size;have h5:=gD.keep (g2.block _ gD.lt (.inl oo));refine zcl h5 zlY<|zcl gZ zEq<|⟨(V.chgI g1 (lr _)).chgI g2 oo,_,rfl,((hw.chg g1 (.inr oo)).chg g2 (.inr oo)).mono oo oo⟩
def zjA {t:TypeId} {s:ByteArray} (ht:P.underlying t=some .string) (h1:i<=j) (h2:j<=s.size) (k:K (.string (s.extract i j))):RD P (Instr.sliceAt t (.string s) (some (.int .i64 (i:Int))) (some (.int .i64 (j:Int))) none) w K:=
 zba (λw' _=>by
   have h:=run_slice_string (P:=P) (w:=w') t s .i64 .i64 (i:Int) (j:Int) ht oo oo oo;simp only [qal] at h;simp only [Instr.sliceAt,Sem.run_bind,run_underlying ht,Result.andThen_ok];exact h) k
def ziU (s:ByteArray) (i:Nat):Bool:=match (bts s)[i]? with | some b=>zob b | none=>false
def zmv (s:ByteArray) (i:Nat):Bool:=match (bts s)[i]? with | some b=>zuv b | none=>false
def ze8 (s:ByteArray) (i:Nat):Int:=match (bts s)[i]? with | some b=>(b.toNat:Int) | none=>-1
def zyY {s:ByteArray} (h:i<s.size):ziU s i=decide ((97:Int)<=(((bts s)[i]'(by rw [zbB];exact h)).toNat:Int)/\(((bts s)[i]'(by rw [zbB];exact h)).toNat:Int)<=122):=by
 unfold ziU;rw [List.getElem?_eq_getElem (by rw [zbB];exact h)];rfl
def zyZ {s:ByteArray} (h:i<s.size):zmv s i=decide ((48:Int)<=(((bts s)[i]'(by rw [zbB];exact h)).toNat:Int)/\(((bts s)[i]'(by rw [zbB];exact h)).toNat:Int)<=57):=by
 unfold zmv;rw [List.getElem?_eq_getElem (by rw [zbB];exact h)];rfl
def zuR {s:ByteArray} (h:i<s.size):(((bts s)[i]'(by rw [zbB];exact h)).toNat:Int)=ze8 s i:=by
 unfold ze8;rw [List.getElem?_eq_getElem (by rw [zbB];exact h)]
structure RunTo (s:ByteArray) (i e:Nat):Prop where
 le:i<=e
 lt:e<=s.size
 all:∀ k,i<=k->k<e->(ziU s k || zmv s k)=true
 stop:e<s.size->(ziU s e || zmv s e)=false
def zy0 {s:ByteArray} {i e:Nat} (h:RunTo s i e) (hm:s.size<=1000000):CALL tp 214 [.string s,.int .i64 (i:Int)] w λr w'=>Ext w w'/\r=.int .i64 (e:Int):=by
 have g4:=h.le;have hlt:=h.lt;refine co (g:=kf [] [(1,8388578,[1])] []) Tryz.func214 ?_;refine zap e (λk us w'=>us=[.int .i64 (k:Int)]/\i<=k/\Ext w w') i g4 ⟨rfl,lr _,xrf _⟩ ?_;rintro k m _ _ _ ⟨hu,g5,g0⟩;try replace hu:=zbv hu
 rw [hu];refine zfB u9<|zaf<|br (λhk=>?_) (λhk=>?_)
 . have hk:k<s.size:=oo
   have g2:(ziU s k || zmv s k)=true->k<e:=λhh=>by
     rcases qay k e with h1 | h1
     . exact h1
     have:=h.stop oo;rw [show e=k by omega,hh] at this;cases this
   refine zed u9 hk<|l02Letter_ok.mono ?_;rintro _ _ ⟨g1,rfl⟩;rw [<-zyY hk];refine zxE (λhl=>?_) (λhl=>?_)
   . have:=g2 (by rw [hl];rfl);refine zau<|⟨m-1,oo,k+1,oo,rfl,oo,g0.t g1⟩
   refine zed u9 hk<|l02Figure_ok.mono ?_;rintro _ _ ⟨g3,rfl⟩;rw [<-zyZ hk];refine zbX (λhf=>?_) (λhf=>?_)
   . have:=g2 (by rw [hl,hf];rfl);refine zau<|⟨m-1,oo,k+1,oo,rfl,oo,g0.t (g1.t g3)⟩
   have:k=e:=by
     rcases qay k e with h1 | h1
     . have:=h.all k g5 h1;rw [hl,hf] at this;cases this
     omega
   rw [this];exact ⟨g0.t (g1.t g3),rfl⟩
 have:k=e:=oo;rw [this];exact ⟨g0,rfl⟩
def zcD:List ByteArray:=[.mk #[123],.mk #[125],.mk #[40],.mk #[41],.mk #[59],.mk #[44],.mk #[61],.mk #[61,61],.mk #[60],.mk #[43],.mk #[45],.mk #[42]]
def isMark_ok {s:ByteArray}    :
   CALL tp 218 [.string s] w λr w'=>Ext w w'/\(r=.bool (decide (s∈zcD))):=by
 refine co (g:=kf [] [] []) Tryz.func218 ?_;refine zaQ<|br (λc1=>?_) (λc1=>?_)
 . refine ⟨xrf w,?_⟩;have hm:s∈zcD:=by simp [zcD, *]
   simp [hm]
 refine zaQ<|br (λc2=>?_) (λc2=>?_)
 . refine ⟨xrf w,?_⟩;have hm:s∈zcD:=by simp [zcD, *]
   simp [hm]
 refine zaQ<|br (λc3=>?_) (λc3=>?_)
 . refine ⟨xrf w,?_⟩;have hm:s∈zcD:=by simp [zcD, *]
   simp [hm]
 refine zaQ<|br (λc4=>?_) (λc4=>?_)
 . refine ⟨xrf w,?_⟩;have hm:s∈zcD:=by simp [zcD, *]
   simp [hm]
 refine zaQ<|br (λc5=>?_) (λc5=>?_)
 . refine ⟨xrf w,?_⟩;have hm:s∈zcD:=by simp [zcD, *]
   simp [hm]
 refine zaQ<|br (λc6=>?_) (λc6=>?_)
 . refine ⟨xrf w,?_⟩;have hm:s∈zcD:=by simp [zcD, *]
   simp [hm]
 refine zaQ<|br (λc7=>?_) (λc7=>?_)
 . refine ⟨xrf w,?_⟩;have hm:s∈zcD:=by simp [zcD, *]
   simp [hm]
 refine zaQ<|br (λc8=>?_) (λc8=>?_)
 . refine ⟨xrf w,?_⟩;have hm:s∈zcD:=by simp [zcD, *]
   simp [hm]
 refine zaQ<|br (λc9=>?_) (λc9=>?_)
 . refine ⟨xrf w,?_⟩;have hm:s∈zcD:=by simp [zcD, *]
   simp [hm]
 refine zaQ<|br (λg0=>?_) (λg0=>?_)
 . refine ⟨xrf w,?_⟩;have hm:s∈zcD:=by simp [zcD, *]
   simp [hm]
 refine zaQ<|br (λg1=>?_) (λg1=>?_)
 . refine ⟨xrf w,?_⟩;have hm:s∈zcD:=by simp [zcD, *]
   simp [hm]
 refine zaQ<|br (λg2=>?_) (λg2=>?_)
 . refine ⟨xrf w,?_⟩;have hm:s∈zcD:=by simp [zcD, *]
   simp [hm]
 refine ⟨xrf w,?_⟩;have hm:s∉zcD:=by simp [zcD, *]
 simp [hm]
inductive LexS (s:ByteArray):Nat->List DSign->Prop
 | done {i:Nat} (h:s.size=i):LexS s i []
 | blank {i:Nat} {l:List DSign} (h:i<s.size) (hb:ze8 s i=32) (t:LexS s (i+1) l):LexS s i l
 | word {i e:Nat} {l:List DSign} (h:i<s.size) (hl:ziU s i=true) (hr:RunTo s i e) (he:i<e) (hw:ziI (s.extract i e)=true) (t:LexS s e l):LexS s i (⟨1,s.extract i e,i⟩ :: l)
 | mark {i:Nat} {l:List DSign} (h:i<s.size) (hb:ze8 s i≠32/\ze8 s i≠9/\ze8 s i≠10/\ze8 s i≠13) (hl:ziU s i=false) (hf:zmv s i=false) (h2:i+2<=s.size->s.extract i (i+2)≠ByteArray.mk #[61,61]) (hm:s.extract i (i+1)∈zcD) (t:LexS s (i+1) l):LexS s i (⟨3,s.extract i (i+1),i⟩ :: l)
end Go.Proofs.YtkgiigmcbgifdaaGreat
namespace Go.Sh
open Rep (rep)
open Go.Sort Go.Proofs
section
variable {α:Type} [Inhabited α] {enc:α->List vL} {k:Nat}
theorem zuS (hk:∀ x,(enc x).length=k):∀ (l:List α),(l.flatMap enc).length=l.length*k
 | []=>by simp
 | x :: l=>by rw [qbD,qag,hk,zuS hk l,qak,qbp];omega
theorem zuT (hk:∀ x,(enc x).length=k) (h0:0<k):∀ {l:List α} {t:Nat},t<l.length*k->(l.flatMap enc)[t]?=some ((enc l[t / k]!)[t%k]!)
 | [],t,h=>by simp at h
 | x :: l,t,h=>by
   rw [qbD];rcases qay t k with ht | ht
   . rw [List.getElem?_append_left (by rw [hk];exact ht),qck ht,qbA ht];have:t<(enc x).length:=by rw [hk];exact ht
     rw [List.getElem?_eq_getElem this];simp [this]
   rw [List.getElem?_append_right (by rw [hk];exact ht),hk];have h':t-k<l.length*k:=by rw [qak,qbp] at h;omega
   rw [zuT hk h0 h']
   have e1:t / k=(t-k) / k+1:=by
     have:t=(t-k)+k:=oo
     conv=>lhs;rw [this]
     rw [Nat.add_div_right _ h0]
   have e2:t%k=(t-k)%k:=by
     have:t=(t-k)+k:=oo
     conv=>lhs;rw [this]
     rw [Nat.add_mod_right]
   rw [e1,e2];simp
def zrp (hk:∀ x,(enc x).length=k) (h0:0<k) {l:List α} {t:Nat} (h:t<l.length*k):(l.flatMap enc)[t]?=some (flatK enc k l.toArray)[t]!:=by
 rw [zuT hk h0 h,get_flatK enc k l.toArray t (by simpa using h)];simp
end
section
variable {α:Type} [Rep α] [Flat α] [Inhabited α] {w:wD} {enc:α->List vL} {b o n cap:Nat} {l:List α}
theorem zrq (henc:∀ {F w cs} {x:α},rep F w cs x->cs=enc x):∀ {l:List α} {F:List Nat} {xs:List vL},Cells F w xs l->xs=l.flatMap enc
 | [],_,_,⟨_,h⟩=>by simp [h]
 | y :: ys,_,_,⟨F1,F2,c1,c2,_,h,h1,h2⟩=>by rw [h,henc h1,zrq henc h2,qbD]
theorem zrr {w':wD} (henc:∀ {F w cs} {x:α},rep F w cs x->cs=enc x):∀ {l:List α},(∀ x∈l,∃ F cs,rep F w cs x)->Cells [] w' (l.flatMap enc) l
 | [],_=>⟨rfl,rfl⟩
 | y :: ys,h=>by
   obtain ⟨F,cs,hr⟩:=h y sS;have hF:=Flat.flat hr;subst hF;have hc:=henc hr;subst hc;exact ⟨[],[],enc y,ys.flatMap enc,rfl,rfl,Rep.keep hr sS,zrr henc λx hx=>h x (by simp [hx])⟩
theorem zrs:∀ {l:List α} {F:List Nat} {xs:List vL},Cells F w xs l->∀ x∈l,∃ F cs,rep F w cs x
 | y :: ys,_,_,⟨F1,F2,c1,c2,_,h,h1,h2⟩,x,hx=>by
   rcases qaa.1 hx with rfl | hx
   . exact ⟨_,_,h1⟩
   exact zrs h2 x hx
def zmw (g0:∀ {F w cs} {x:α},rep F w cs x->cs=enc x) (hk:∀ x,(enc x).length=Rep.size α) (hw:∃ c e,w.heap[b]?=some (.cells c e (0,0))) {xs:List vL} (hc:Cells [] w xs l) (hr:w.rangeAt b o xs):HoldsK enc (Rep.size α) w b o l.toArray:=by
 intro j hj;rw [size_flatK] at hj;have g1:j<l.length*Rep.size α:=by simpa using hj
 have:=zrq g0 hc;subst this;have h1:=hr j _ (zrp hk Rep.pos g1);refine ⟨h1,?_⟩;obtain ⟨c,e,he⟩:=hw;simp [World.frozen?,he]
def zmx (g0:∀ {F w cs} {x:α},rep F w cs x->cs=enc x) (hk:∀ x,(enc x).length=Rep.size α) {d':Array α} {m:Nat} {os:Array Obj} {w3:wD} (g4:w3=sortWorldK enc (Rep.size α) w b o m d' os) (hw:∃ c e,w.heap[b]?=some (.cells c e (0,0))) {xs:List vL} (hc:Cells [] w xs l) (hr:w.rangeAt b o xs)
   (h1:l.length<=cap) (h2:cap<=maxLen) (hl:d'.size=l.length) (hp:∀ x∈d'.toList,x∈l):Chg [b] w w3/\Mine [b] w3 (.slice (some ⟨b,o,none⟩) l.length cap) d'.toList:=by
 subst g4;have hH:=zmw g0 hk hw hc hr;obtain ⟨c,e,he⟩:=hw;have hb:b<w.heap.size:=(Array.getElem?_eq_some_iff.1 he).1;have g1:(putRowK enc (Rep.size α) (Sort.ahead w m) b o d').heap.size=w.heap.size:=by simp [putRowK,putRow,mapBlock,Sort.ahead]
 have g2:∀ i,i<w.heap.size->i≠b->(sortWorldK enc (Rep.size α) w b o m d' os).heap[i]?=w.heap[i]?:=λi hi g5=>by
   unfold sortWorldK;rw [heap_grow_old _ _ (by rw [g1];exact hi)];simp [putRowK,putRow,mapBlock,Sort.ahead,Array.getElem?_modify,g5.symm]
 have g9:∃ c',(sortWorldK enc (Rep.size α) w b o m d' os).heap[b]?=some (.cells c' e (0,0)):=by
   unfold sortWorldK;rw [heap_grow_old _ _ (by rw [g1];exact hb)];exact ⟨_,by simp [putRowK,putRow,mapBlock,Sort.ahead,Array.getElem?_modify,he,onCells];rfl⟩
 have g3:w.heap.size<=(sortWorldK enc (Rep.size α) w b o m d' os).heap.size:=by
   unfold sortWorldK grow;rw [Array.size_append,g1];omega
 refine ⟨⟨rfl,rfl,rfl,g3,λi hi hm=>g2 i hi λe=>hm (by simp [e])⟩,⟨⟨_,⟨some ⟨b,o,none⟩,cap,[],d'.toList.flatMap enc,rfl,by simpa [hl] using h1,h2,?_,.inr ⟨b,o,rfl,rfl,?_,oo⟩⟩,by simp [mkv,Rep.agg,hl]⟩,sS,λi hi=>?_⟩⟩
 . exact zrr (w:=w) g0 λx hx=>zrs hc x (hp x hx)
 . intro j _ hv
   have hj:j<d'.toList.length*Rep.size α:=by
     have:=(List.getElem?_eq_some_iff.1 hv).1;rwa [zuS hk] at this
   rw [zrp hk Rep.pos hj,qao] at hv;have gb:j<(flatK enc (Rep.size α) d').size:=by rw [size_flatK];simpa using hj
   have:=cell?_putRow id (Sort.ahead w m) b o (flatK enc (Rep.size α) l.toArray) (flatK enc (Rep.size α) d') hH (by simp [hl]) j gb;unfold sortWorldK;rw [cell?_grow _ _ _ (by rw [g1];exact hb)];show (putRow id (Sort.ahead w m) b o (flatK enc (Rep.size α) d')).cell? _=_;rw [this,<-hv];simp
 simp only [qaa,qad,qaq] at hi;subst hi;obtain ⟨c',gc⟩:=g9;exact ⟨c',e,gc⟩
end
end Go.Sh
namespace Go.Proofs.YtkgiigmcbgifdaaGreat
open Go Go.Sh Go.Proofs
open Rep (rep)
variable {K:vL->Prop} {P:pG} {W W0 w w0:wD} {a x:Int} {cs:List vL} {hi i k lo n ng nl:Nat} {ks:List Nat} {v v0 vk vo:vL}
def zG4:zcu tp 3=some [.int .i64 0]:=by kernel_rfl
def zuU (x y:Int):Int:=if x<y then -1 else if y<x then 1 else 0
def zy1:List Int->List Int->Int
 | [],[]=>0
 | [],_ :: _=>-1
 | _ :: _,[]=>1
 | x :: l,y :: m=>if zuU x y≠0 then zuU x y else zy1 l m
def isNaN_ok:CALL tp 238 [.int .i64 x] w λr w'=>w'=w/\r=.bool false:=by
 refine co (g:=kf [] [] []) Tryz.func238 ?_;exact zaT ⟨rfl,sS⟩
def compareI_ok {x y:Int}:CALL tp 186 [.int .i64 x,.int .i64 y] w λr w'=>w'=w/\r=.int .i64 (zuU x y):=by
 refine co (g:=kf [] [] []) Tryz.func186 ?_;refine isNaN_ok.mono ?_;rintro _ _ ⟨rfl,rfl⟩;refine isNaN_ok.mono ?_;rintro _ _ ⟨rfl,rfl⟩;refine zbX (λh=>by cases h) (λ_=>?_);refine zbX (λh=>by cases h) (λ_=>?_);refine zaf<|br (λh=>⟨rfl,by rw [zuU,qah h]⟩) (λh=>?_);refine zcO<|br (λh2=>⟨rfl,by rw [zuU,qab h,qah h2]⟩) (λh2=>⟨rfl,by rw [zuU,qab h,qab h2]⟩)
def zmy {t ty e:TypeId} {a:Option Addr} {n c:Nat} (ht:P.underlying t=some (.slice e)) (k:K (.int .i64 (n:Int))) :
   RD P (Builtin.len_ #[t] ty [Value.slice a n c].toArray) w K:=zba (λw' _=>by simp [Builtin.len_,run_underlying ht];rfl) k
def vI (l:List Int):List vL:=l.map λx=>.int .i64 x
def zDv {l:List Int} (h:k<l.length):(vI l)[k]?=some (.int .i64 l[k]):=by simp [vI,h]
def zy2 {l m:List Int} (h1:k<l.length) (h2:k<m.length):zy1 (l.drop k) (m.drop k)=if zuU l[k] m[k]≠0 then zuU l[k] m[k] else zy1 (l.drop (k+1)) (m.drop (k+1)):=by
 rw [qaA h1,qaA h2,zy1]
def zmz {g1 g2 e1 e2 c1 c2:Nat} {l m:List Int} (h1:Blk g1 e1 w (vI l)) (h2:Blk g2 e2 w (vI m)) (hl:l.length<=1000) (hm:m.length<=1000) :
   CALL tp 119 [.slice (some ⟨g1,0,none⟩) l.length c1,.slice (some ⟨g2,0,none⟩) m.length c2] w λr w'=>w'=w/\r=.int .i64 (zy1 l m):=by
 refine co (g:=kf [] [(2,2147482096,[11])] []) Tryz.func119 ?_;refine zmy u25<|zap l.length (λk us w'=>us=[.int .i64 (k:Int)]/\w'=w/\k<=m.length/\zy1 l m=zy1 (l.drop k) (m.drop k)) 0 (z0 _) ⟨rfl,rfl,z0 _,rfl⟩ ?_;rintro k mk _ _ _ ⟨hu,rfl,_,hc⟩;try replace hu:=zbv hu
 rw [hu];refine zaf<|br (λ_=>?_) (λg9=>?_)
 . have g0:k<l.length:=oo;refine zjf u25 ty3 g0 ?_;rw [qcb];refine zan ty3 h1 (zDv g0)<|zmy u25<|zb9<|br (λg9=>?_) (λg3=>?_)
   . refine ⟨rfl,?_⟩;have e0:m.drop k=[]:=qb5 oo;rw [hc,qaA g0,e0];rfl
   have g4:k<m.length:=oo;refine zjf u25 ty3 g4 ?_;rw [qcb];refine zan ty3 h2 (zDv g4)<|compareI_ok.mono ?_;rintro _ _ ⟨rfl,rfl⟩;have g5:=zy2 g0 g4;refine zaT<|br (λgb=>?_) (λgc=>?_)
   . exact ⟨rfl,by rw [hc,g5,qah gb]⟩
   refine zau<|⟨mk-1,oo,k+1,oo,rfl,rfl,oo,by rw [hc,g5,qab gc]⟩
 have hk:k=l.length:=oo;subst hk;refine zmy u25<|zmy u25<|zaf ?_;rw [qbB] at hc;refine br (λg3=>⟨rfl,?_⟩) (λ_=>⟨rfl,?_⟩)
 . rw [hc,qaA oo];rfl
 rw [hc,qb5 oo];rfl
section
variable {P:pG} {w:wD} {K:VW}
def zmA {t:TypeId} {cs:Array vL} (k:K (.pointer (some ⟨w.heap.size,0,none⟩)) (w.alloc (.cells cs t))):OP P (Instr.box t (.agg cs)) w K:=
 ⟨_,w.alloc (.cells cs t),by simp [Instr.box,newVar,newRow,Value.cells],k⟩
theorem zh4 {t e:TypeId} {by_:Nat} {x y z:Int} (ht:P.underlying t=some (.slice e)) (he:tyI P e=some (1,by_,false)) (hz:zcu P e=some [.int .i64 0])
   (k:K (.slice (some ⟨w.heap.size,0,none⟩) 3 3) (w.alloc (.cells (vI [x,y,z]).toArray e))):OP P (Instr.buildSlice t 3 #[(0,.int .i64 x),(1,.int .i64 y),(2,.int .i64 z)]) w K:=by
 unfold zcu at hz;cases hi:P.info? e with
 | none=>simp [hi] at hz
 | some i=>
   simp only [hi] at hz;obtain ⟨v,hv,g1⟩:=qaQ.1 hz;refine ⟨_,w.alloc (.cells (vI [x,y,z]).toArray e),?_,k⟩;have g0:v.cells=#[.int .i64 0]:=qcn (by simpa using g1);have e1:∀ n:Int,(Value.int .i64 n).cells=#[.int .i64 n]:=λ_=>rfl;simp only [Instr.buildSlice,Sem.run_bind,run_underlying ht,Result.andThen_ok,zaJ he];have e2:Array.range 3=#[0,1,2]:=by decide
   simp [zeroValue,typeInfo,hi,hv,newRow,Instr.fill,g0,vI,e1,e2]
end
def zEK {e:Nat}:Blk w.heap.size e (w.alloc (.cells cs.toArray e)) cs:=heap_alloc_new w _
def i3 (a b c:Int):Array vL:=#[.int .i64 a,.int .i64 b,.int .i64 c]
def ziV (w w':wD):Prop:=∃ q os,w'=Go.Sort.grow (w.drewN q) os
def zk8 (o1 o2 o3 o4:Obj):ziV w ((((w.alloc o1).alloc o2).alloc o3).alloc o4):=
 ⟨0,#[o1]++#[o2]++#[o3]++#[o4],by
   rw [Go.Sort.alloc_eq_grow,Go.Sort.alloc_eq_grow,Go.Sort.alloc_eq_grow,Go.Sort.alloc_eq_grow,Go.Sort.grow_grow,Go.Sort.grow_grow,Go.Sort.grow_grow];rfl⟩
def zmB (x:DRace):List Int:=[x.g,x.a,x.b]
def zBr (x y:DRace):Int:=zy1 (zmB x) (zmB y)
def zmC {x y:DRace}:CALL tp 60 [.agg (i3 x.g x.a x.b),.agg (i3 y.g y.a y.b)] w λr w'=>r=.int .i64 (zBr x y)/\ziV w w':=by
 refine co (g:=kf [] [] []) Tryz.func60 ?_;refine zmA ?_;have g0:Blk w.heap.size 41 (w.alloc (.cells (i3 x.g x.a x.b) 41)) (vI (zmB x)):=heap_alloc_new w _;refine zmA ?_;generalize hw1:w.alloc (.cells (i3 x.g x.a x.b) 41)=w1 at *;have g1:Blk w1.heap.size 41 (w1.alloc (.cells (i3 y.g y.a y.b) 41)) (vI (zmB y)):=heap_alloc_new w1 _;have g2:=zaX w1 (.cells (i3 y.g y.a y.b) 41);generalize hw2:w1.alloc (.cells (i3 y.g y.a y.b) 41)=w2 at *;have C:=g0.ext g2;refine zaa zn5<|zan ty3 C rfl<|zaa zlX<|zan ty3 C rfl<|zaa zq2<|zan ty3 C rfl<|zh4 u25 ty3 zG4 ?_;have g3:=zaX w2 (.cells (vI [x.g,x.a,x.b]).toArray 3);have g4:Blk w2.heap.size 3 (w2.alloc (.cells (vI [x.g,x.a,x.b]).toArray 3)) (vI (zmB x)):=heap_alloc_new w2 _;generalize hw3:w2.alloc (.cells (vI [x.g,x.a,x.b]).toArray 3)=w3 at *;have D:=g1.ext g3;refine zaa zn5<|zan ty3 D rfl<|zaa zlX<|zan ty3 D rfl<|zaa zq2<|zan ty3 D rfl<|zh4 u25 ty3 zG4 ?_;have g5:=zaX w3 (.cells (vI [y.g,y.a,y.b]).toArray 3);have g9:Blk w3.heap.size 3 (w3.alloc (.cells (vI [y.g,y.a,y.b]).toArray 3)) (vI (zmB y)):=heap_alloc_new w3 _;have hg:ziV w (w3.alloc (.cells (vI [y.g,y.a,y.b]).toArray 3)):=by rw [<-hw3,<-hw2,<-hw1];exact zk8 _ _ _ _
 refine (zmz (l:=zmB x) (m:=zmB y) (g4.ext g5) g9 (by simp [zmB]) (by simp [zmB])).mono ?_;rintro _ _ ⟨rfl,rfl⟩;exact ⟨rfl,hg⟩
def ltR (x y:DRace):Prop:=x.g<y.g\/(x.g=y.g/\(x.a<y.a\/(x.a=y.a/\x.b<y.b)))
def zky {x y:Int} (h:x<y):zuU x y=-1:=by rw [zuU,qah h]
def zkz {x y:Int} (h:y<x):zuU x y=1:=by rw [zuU,qab oo,qah h]
def zkA {x y:Int} (h:x=y):zuU x y=0:=by rw [zuU,qab oo,qab oo]
def zEL {x y:DRace}:zBr x y<0↔ltR x y:=by
 unfold zBr zmB ltR;simp only [zy1];rcases qbV x.g y.g with h | h | h
 . rw [zky h];simp;omega
 . rw [zkA h];rcases qbV x.a y.a with h2 | h2 | h2
   . rw [zky h2];simp;omega
   . rw [zkA h2];rcases qbV x.b y.b with h3 | h3 | h3
     . rw [zky h3];simp;omega
     . rw [zkA h3];simp;omega
     rw [zkz h3];simp;omega
   rw [zkz h2];simp;omega
 rw [zkz h];simp;omega
def zIe:zcu tp 195=some [.int .i64 0,.string nO,.int .i64 0]:=by kernel_rfl
theorem LexS.len {s:ByteArray} {l:List DSign} (h:LexS s i l):l.length+i<=s.size:=by
 induction h with
 | done h=>simp;omega
 | blank h _ _ ih=>omega
 | word _ _ _ he _ _ ih=>simp only [qak];omega
 | mark _ _ _ _ _ _ _ ih=>simp only [qak];omega
def zuV {k:Int} {t:ByteArray} (hk:I64 k) (ht:t.size<=maxLen) (ha:I64 a):OwnI lo hi w (.agg #[.int .i64 k,.string t,.int .i64 a]) (⟨k,t,a⟩:DSign):=⟨[],zBm (x:=⟨k,t,a⟩) hk ht ha,sS⟩
def zy3 {s:ByteArray} (h:ziU s i=true):97<=ze8 s i:=by
 unfold ziU at h;unfold ze8;split at h
 . rename_i b hb;simp only [zob,qau] at h;exact h.1
 cases h
def zGy {s:ByteArray} {L:List DSign} (h:LexS s 0 L) (hm:s.size<=6000) :
   CALL tp 154 [.string s] w λr w'=>Ext w w'/\∃ a,r=.tuple #[a,.agg #[.int .i64 0,.int .i64 0]]/\Own w.heap.size w' a L:=by
 have hLl:=h.len;refine co (g:=kf [(23,1237940039285371478806102656,[7,9])] [(5,40564819207303340847894502507508,[4,5])] []) Tryz.func154 ?_;refine zaL zG3 λw1 gl gp=>?_;have hs1:=gl.size;have hb1:=gp.lt;refine zfB u9<|zcO<|br (λh=>oo) (λ_=>?_);refine zaD (α:=DSign) zBc zq5 λ_ _ gq _=>?_;have hs2:=gq.size;refine zap s.size (λk us w'=>∃ (out:vL) (dn l:List DSign),us=[out,.int .i64 (k:Int)]/\k<=s.size/\LexS s k l/\L=dn++l/\Ext w1 w'/\RowI w1.heap.size w'.heap.size 195 w' out dn) 0 (z0 _) ⟨_,[],L,rfl,z0 _,h,rfl,gq,zcd _ _ _ _ _⟩ ?_;rintro k m _ w3 _ ⟨out,dn,l,hu,_,hl,hL,D,gb⟩;obtain ⟨gH,gI⟩:=zcZ hu;rw [gH,gI];have hs3:=D.size;refine zfB u9<|zaf<|br (λ_=>?_) (λ_=>?_)
 case refine_2=>
   have gJ:l=[]:=by
     cases hl with
     | done _=>rfl
     | blank h _ _=>omega
     | word h _ _ _ _ _=>omega
     | mark h _ _ _ _ _ _=>omega
   subst gJ;rw [qaF] at hL;subst hL;refine zaF (cells:=#[.int .i64 0,.int .i64 0]) kK<|zaz (α:=DArc) (lo:=0) (hi:=0) zEq rfl (gp.ext D) rfl zuQ λw4 gr g5=>zcl g5 zEq<|⟨(gl.t D).chgI gr (lr _),_,rfl,(gb.own.chg gr (.inr oo)).own.mono oo⟩
 have hk:k<s.size:=oo;refine zed u9 hk ?_;rw [zuR hk]
 have g0:∀ {t:List DSign},LexS s (k+1) t->L=dn++t->RD tp (bin .add 3 (.tmp 0) (.const undef) (.int .i64 (k:Int)) (Value.int .i64 1)) w3 λgK=>∃ m',m'<m/\∃ k',k'+m'=s.size/\∃ (out':vL) (dn l:List DSign),[out,gK]=[out',.int .i64 (k':Int)]/\k'<=s.size/\LexS s k' l/\L=dn++l/\Ext w1 w3/\RowI w1.heap.size w3.heap.size 195 w3 out' dn:=λ{t} ht gM=>by
   refine zau<|⟨m-1,oo,k+1,oo,out,dn,t,rfl,oo,ht,gM,D,gb⟩
 by_cases hb32:ze8 s k=32
 . rw [hb32];refine zai<|br (λ_=>?_) (λh=>absurd rfl h);cases hl with
   | done h=>omega
   | blank _ _ t=>exact g0 t hL
   | word _ hl _ _ _ _=>have:=zy3 hl;omega
   | mark _ hb _ _ _ _ _=>exact absurd hb32 hb.1
 have gc:ze8 s k≠9/\ze8 s k≠10/\ze8 s k≠13:=by
   cases hl with
   | done h=>omega
   | blank _ hb _=>exact absurd hb hb32
   | word _ hl _ _ _ _=>have:=zy3 hl;omega
   | mark _ hb _ _ _ _ _=>exact hb.2
 refine zai<|br (λh=>absurd h hb32) (λ_=>?_);refine zai<|br (λh=>absurd h gc.1) (λ_=>?_);refine zai<|br (λh=>absurd h gc.2.1) (λ_=>?_);refine zai<|br (λh=>absurd h gc.2.2) (λ_=>?_);refine zau<|zaF (cells:=#[.int .i64 3,.string nO,.int .i64 (k:Int)]) kK<|zaL zIe λw4 gs g5=>?_;have hs4:=gs.size;have hb4:=g5.lt;refine zaz (α:=DSign) (lo:=0) (hi:=0) zq5 rfl g5 rfl (zuV io zhs io) λw5 gt gx=>?_;have hs5:=gt.size;have g1:Ext w3 w5:=gs.chgI gt (lr _)
 obtain ⟨e,kd,r,_,gd,gy,gz,gN,gC⟩:∃ (e:Nat) (kd:Int) (r:List DSign),k<e/\e<=s.size/\(s.extract k e).size<=maxLen/\L=(dn++[⟨kd,s.extract k e,(k:Int)⟩])++r/\LexS s e r/\((ziU s k=true/\kd=1/\RunTo s k e/\ziI (s.extract k e)=true)\/(ziU s k=false/\kd=3/\e=k+1/\zmv s k=false/\(k+2<=s.size->s.extract k (k+2)≠ByteArray.mk #[61,61])/\s.extract k (k+1)∈zcD)):=by
   have gD:∀ e,(s.extract k e).size<=maxLen:=λe=>by rw [ByteArray.size_extract,zaj];omega
   cases hl with
   | done h=>omega
   | blank _ hb _=>exact absurd hb hb32
   | word _ hl hr he hw t=>exact ⟨_,1,_,he,hr.lt,gD _,by rw [hL];simp,t,.inl ⟨hl,rfl,hr,hw⟩⟩
   | mark _ _ hl hf h2 hm t=>exact ⟨k+1,3,_,oo,oo,gD _,by rw [hL];simp,t,.inr ⟨hl,rfl,rfl,hf,h2,hm⟩⟩
 refine JOIN.mk (λus w'=>us=[.int .i64 (e:Int),.bool true]/\Ext w3 w'/\Blk w3.heap.size 195 w' [.int .i64 kd,.string nO,.int .i64 (k:Int)]) ?_ ?_
 . rw [<-zuR hk];refine l02Letter_ok.mono ?_;rintro _ w6 ⟨gf,rfl⟩;rw [<-zyY hk];rcases gC with ⟨gg,rfl,gh,gO⟩ | ⟨gP,rfl,rfl,gQ,h2,gR⟩
   . rw [gg];refine zbX (λ_=>?_) (λh=>by cases h);refine (zy0 gh oo).mono ?_;rintro _ w7 ⟨g9,rfl⟩;refine zaa zyw<|za3 (α:=Int) (lo:=0) (hi:=0) ty3 rfl rfl (gx.ext (gf.t g9)) sS (zbI io) λw8 gi gS=>?_;have gj:Ext w3 w8:=(g1.t (gf.t g9)).chgI gi (lr _);refine zjA u9 oo gd<|l02Word_ok.mono ?_;rintro _ w9 ⟨I,rfl⟩;rw [gO];exact ⟨rfl,gj.t I,gS.ext I⟩
   rw [gP];refine zbX (λh=>by cases h) (λ_=>?_);refine l02Figure_ok.mono ?_;rintro _ w7 ⟨g9,rfl⟩;rw [<-zyZ hk,gQ];refine zbX (λh=>by cases h) (λ_=>?_);have g2:=gf.t g9
   have g3:∀ w8,Ext w7 w8->RD tp (Instr.sliceAt 9 (.string s) (some (.int .i64 (k:Int))) (some (.int .i64 ((k+1:Nat):Int))) none) w8 λgU=>CALL tp 218 [gU] w8 λgV w=>[Value.int .i64 ((k+1:Nat):Int),gV]=[.int .i64 ((k+1:Nat):Int),.bool true]/\Ext w3 w/\Blk w3.heap.size 195 w [.int .i64 3,.string nO,.int .i64 (k:Int)]:=λw8 gE=>by
     refine zjA u9 oo oo<|isMark_ok.mono ?_;rintro _ w9 ⟨I,rfl⟩;rw [decide_eq_true gR];exact ⟨rfl,g1.t (g2.t (gE.t I)),gx.ext (g2.t (gE.t I))⟩
   refine zcY io<|zfB u9<|zew<|br (λ_=>?_) (λ_=>g3 w7 (xrf _));refine zcY io ?_;rw [show (k:Int)+2=((k+2:Nat):Int) by omega];refine zjA u9 oo oo<|zaQ<|br (λh=>absurd h (h2 oo)) (λ_=>g3 w7 (xrf _))
 rintro _ w6 ⟨gW,g4,gF⟩;obtain ⟨gX,gY⟩:=zcZ gW;rw [gX,gY];have hs6:=g4.size;have hb6:=gF.lt;refine za2<|zbX (λh=>by cases h) (λ_=>?_);refine zjA u9 oo gd<|zaa zpr<|za3 (α:=ByteArray) (lo:=0) (hi:=0) ty9 rfl rfl gF sS (zlm gy) λw7 gG gZ=>?_;have hs7:=gG.size;have C:Ext w3 w7:=g4.chgI gG (lr _);refine zck gZ zq5 ?_;have hdl:dn.length<=6000:=by have:=qax List.length gz;simp at this;omega
 refine zbM (lo2:=w7.heap.size) (hi2:=w7.heap.size) (x:=(⟨kd,s.extract k e,(k:Int)⟩:DSign)) zBc zq5 zIb zHj qd ((gb.ext C).mono (lr _) C.size) oo (zuV (by unfold I64;rcases gC with h | h<;>omega) gy io) (lr _) oo (by rw [zaj];omega) oo λv8 w8 gi h4=>⟨s.size-e,oo,e,oo,v8,dn++[⟨kd,s.extract k e,(k:Int)⟩],r,rfl,gd,gN,gz,(D.t C).chgI gi (lr _),h4⟩
def zy4 {s:ByteArray} {L:List DSign} (h:LexS s 0 L) (hm:s.size<=6000) :
   CALL tp 90 [.string s] w λr w'=>Ext w w'/\∃ g v e W,r=.pointer (some ⟨g,0,none⟩)/\w.heap.size<=g/\g<w'.heap.size/\RdS W g L v e 0 60 w':=by
 have:=h.len;refine co (g:=kf [] [] []) Tryz.func90 ?_;refine (zGy h hm).mono ?_;rintro _ w1 ⟨g1,_,rfl,oa⟩;refine zaN rfl<|zaN rfl ?_;have:=g1.size;refine zaL zG3 λ_ g2 g5=>?_;have:=g2.size;refine zaz (α:=DArc) (lo:=0) (hi:=0) zEq rfl g5 rfl zuQ λw3 g3 g9=>?_;have:=g3.size;have g0:Ext w1 w3:=g2.chgI g3 (lr _);refine zfB u9<|zck g9 zEq ?_;obtain ⟨av,cap,rfl⟩:=zdP oa.toI;refine zaF (cells:=(zge (.slice av L.length cap) s.size 0 60).toArray) kK<|zmA ?_;have g4:=zaX w3 (.cells (zge (.slice av L.length cap) s.size 0 60).toArray 132);have hB:Blk w3.heap.size 132 (w3.alloc (.cells (zge (.slice av L.length cap) s.size 0 60).toArray 132)) (zge (.slice av L.length cap) s.size 0 60):=zEK;exact ⟨(g1.t g0).trans g4,w3.heap.size,_,_,w1,rfl,oo,hB.lt,oa.is,g0.t g4,oo,hB,oo⟩
def zBs (s:ByteArray):Nat->Nat->Nat
 | 0,i=>i
 | n+1,i=>if ziU s i || zmv s i then zBs s n (i+1) else i
def zHv {s:ByteArray} (h:(ziU s i || zmv s i)=true):i<s.size:=by
 rcases qay i s.size with h1 | h1
 . exact h1
 have:(bts s)[i]?=none:=List.getElem?_eq_none (by rw [zbB];exact h1);unfold ziU zmv at h;rw [this] at h;cases h
theorem zy5 {s:ByteArray}:∀ {n i:Nat},i<=s.size->s.size<=i+n->RunTo s i (zBs s n i)
 | 0,i,h1,h2=>⟨qaz _,h1,λk a b=>by simp only [zBs] at b;omega,λh=>by simp only [zBs] at h;omega⟩
 | n+1,i,h1,h2=>by
   unfold zBs;split
   . next hc=>
     have hl:=zHv hc;have:=zy5 (s:=s) (n:=n) (i:=i+1) oo oo;refine ⟨by have:=this.le;omega,this.lt,λk a b=>?_,this.stop⟩;rcases qay i k with h3 | h3
     . exact this.all k h3 b
     rw [show k=i by omega];exact hc
   next hc=>exact ⟨qaz _,h1,λk a b=>oo,λ_=>by simpa using hc⟩
def zAR (s:ByteArray):Nat->Nat->Option (List DSign)
 | 0,i=>if s.size=i then some [] else none
 | n+1,i=>
   if s.size=i then some []
   else if s.size<i then none
   else if ze8 s i=32 then zAR s n (i+1)
   else if ziU s i=true then
     (if i<zBs s s.size i/\ziI (s.extract i (zBs s s.size i))=true then (zAR s n (zBs s s.size i)).map (⟨1,s.extract i (zBs s s.size i),i⟩ :: ·) else none)
   else if (ze8 s i≠9/\ze8 s i≠10/\ze8 s i≠13)/\zmv s i=false/\(i+2<=s.size->s.extract i (i+2)≠ByteArray.mk #[61,61])/\s.extract i (i+1)∈zcD then
     (zAR s n (i+1)).map (⟨3,s.extract i (i+1),i⟩ :: ·)
   else none
theorem zpO {s:ByteArray}:∀ {n i:Nat} {l:List DSign},zAR s n i=some l->LexS s i l
 | 0,i,l,h=>by
   unfold zAR at h;split at h
   . next hc=>cases h;exact .done hc
   cases h
 | n+1,i,l,h=>by
   unfold zAR at h;split at h
   . next hc=>cases h;exact .done hc
   split at h
   . cases h
   next h1 h2=>
   have hlt:i<s.size:=oo;split at h
   . next hb=>exact .blank hlt hb (zpO h)
   next hb=>
   split at h
   . next hl=>
     split at h
     . next hw=>
       obtain ⟨t,ht,rfl⟩:=qaQ.1 h;exact .word hlt hl (zy5 oo oo) hw.1 hw.2 (zpO ht)
     cases h
   next hl=>
   split at h
   . next hm=>
     obtain ⟨t,ht,rfl⟩:=qaQ.1 h;exact .mark hlt ⟨hb,hm.1⟩ (by simpa using hl) hm.2.1 hm.2.2.1 hm.2.2.2 (zpO ht)
   cases h
def zHO (L:List DSign) (i k:Nat):Bool:=decide (4<=k/\k<=7/\i+2<L.length/\some (sgT L i)=wordsS[k]?/\named L (i+1)=true/\sgT L (i+2)=ByteArray.mk #[59]/\(sgT L (i+1)).size<=maxLen)
def zEM {L:List DSign} (h:zHO L i k=true):OneS L i k:=by
 obtain ⟨a,b,c,d,e,f,g⟩:=of_decide_eq_true h;exact ⟨a,b,c,d,e,f,g⟩
def zHP (L:List DSign) (i:Nat) (ks:List Nat):Bool:=decide ((∀ j (hj:j<ks.length),zHO L (i+3*j) ks[j]=true)/\(∀ j,j<ks.length->named L (i+3*j)=false/\zol L (i+3*j)=true)/\zol L (i+3*ks.length)=false/\ks.length<=60)
def zEN {L:List DSign} (h:zHP L i ks=true):RowS L i ks:=by
 obtain ⟨a,b,c,d⟩:=of_decide_eq_true h;exact ⟨λj hj=>zEM (a j hj),λj hj=>(b j hj).1,λj hj=>(b j hj).2,c,d⟩
def zHw (L:List DSign) (i n:Nat) (t:ByteArray):Bool:=decide (sgT L i=t/\i+2*n<L.length/\1<=n/\n<=6/\(∀ j,j<n->named L (i+1+2*j)=true/\(sgT L (i+1+2*j)).size<=maxLen)/\sgT L (i+1)≠ByteArray.mk #[59]/\(∀ j,j<n->1<=j->sgT L (i+2*j)=ByteArray.mk #[44])/\sgT L (i+2*n)=ByteArray.mk #[59])
def zy6 {L:List DSign} {t:ByteArray} (h:zHw L i n t=true):LstS L i n t:=by
 obtain ⟨a,b,c,d,e,f,g,k⟩:=of_decide_eq_true h;exact ⟨a,b,c,d,λj hj=>(e j hj).1,λj hj=>(e j hj).2,f,λj h1 h2=>g j h2 h1,k⟩
def zBt (L:List DSign):Nat->List (List Nat)->Bool
 | i,[]=>decide (L.length<=i)
 | i,ks :: r=>decide (sgT L i=ByteArray.mk #[112,114,111,99]/\named L (i+1)=true/\(sgT L (i+1)).size<=maxLen/\sgT L (i+2)=ByteArray.mk #[123]/\zHP L (i+3) ks=true/\sgT L (i+3+3*ks.length)=ByteArray.mk #[125]/\i+3+3*ks.length<L.length)&&zBt L (i+4+3*ks.length) r
theorem zuW {L:List DSign}:∀ {N:List (List Nat)} {i:Nat},zBt L i N=true->PrcsS L i N
 | [],i,h=>.nil (of_decide_eq_true h)
 | ks :: r,i,h=>by
   unfold zBt at h;rw [qar] at h;obtain ⟨a,b,c,d,e,f,g⟩:=of_decide_eq_true h.1;exact .cons ⟨a,b,c,d,zEN e,f,g⟩ (zuW h.2)
def zhx (s:ByteArray):List DSign:=(zAR s s.size 0).getD []
def zuX (s:ByteArray) (ng nl:Nat) (N:List (List Nat)):DProg:=⟨zmq (zhx s) 0 ng,zmq (zhx s) (2*ng+1) nl,zxq (zhx s) (2*ng+1+2*nl+1) N⟩
def zy7 (s:ByteArray) (ng nl:Nat) (N:List (List Nat)):Bool:=(zAR s s.size 0).isSome&&decide (s.size<=6000)&&zHw (zhx s) 0 ng (ByteArray.mk #[103,108,111,98,97,108,115])&&zHw (zhx s) (2*ng+1) nl (ByteArray.mk #[108,111,99,107,115])&&zBt (zhx s) (2*ng+1+2*nl+1) N&&decide (N.length<=8)
def ziW {s:ByteArray} {N:List (List Nat)} (h:zy7 s ng nl N=true) :
   CALL tp 40 [.string s] w0 λr w'=>Ext w0 w'/\∃ a,r=.tuple #[a,.agg #[.int .i64 0,.int .i64 0]]/\OwnI w0.heap.size w'.heap.size w' a (zuX s ng nl N):=by
 simp only [zy7,qar] at h;obtain ⟨⟨⟨⟨⟨h1,h2⟩,h3⟩,h4⟩,h5⟩,h6⟩:=h
 have hL:zAR s s.size 0=some (zhx s):=by
   unfold zhx;cases e:zAR s s.size 0 with
   | none=>rw [e] at h1;cases h1
   | some l=>rfl
 exact zto (λ_=>zy4 (zpO hL) (of_decide_eq_true h2)) (zy6 h3) (zy6 h4) (zuW h5) (of_decide_eq_true h6)
def zFK:ByteArray:=ByteArray.mk #[103,108,111,98,97,108,115,32,120,59,32,108,111,99,107,115,32,97,59,32,112,114,111,99,32,109,97,105,110,32,123,32,108,111,99,107,32,97,59,32,108,111,99,107,32,97,59,32,125]
def zEO:zy7 zFK 1 1 [[6,6]]=true:=by decide +kernel
def zFL:ByteArray:=ByteArray.mk #[103,108,111,98,97,108,115,32,120,59,32,108,111,99,107,115,32,97,44,32,98,59,32,112,114,111,99,32,109,97,105,110,32,123,32,115,112,97,119,110,32,112,59,32,108,111,99,107,32,97,59,32,108,111,99,107,32,98,59,32,117,110,108,111,99,107,32,98,59,32,117,110,108,111,99,107,32,97,59,32,125,32,112,114,111,99,32,112,32,123,32,108,111,99,107,32,98,59,32,108,111,99,107,32,97,59,32,125]
def zEP:zy7 zFL 1 2 [[5,6,6,7,7],[6,6]]=true:=by decide +kernel
def zGz:ByteArray:=ByteArray.mk #[103,108,111,98,97,108,115,32,120,59,32,108,111,99,107,115,32,97,44,32,98,44,32,109,59,32,112,114,111,99,32,109,97,105,110,32,123,32,115,112,97,119,110,32,112,59,32,115,112,97,119,110,32,113,59,32,108,111,99,107,32,97,59,32,108,111,99,107,32,98,59,32,125,32,112,114,111,99,32,112,32,123,32,108,111,99,107,32,98,59,32,108,111,99,107,32,109,59,32,125,32,112,114,111,99,32,113,32,123,32,108,111,99,107,32,109,59,32,108,111,99,107,32,97,59,32,125]
def zEQ:zy7 zGz 1 3 [[5,5,6,6],[6,6],[6,6]]=true:=by decide +kernel
def zy8 (t:DTerm):Prop:=∀ {w W:wD} {v:vL},Is W v t->Ext W w->wT t<=1048576 ->
 CALL tp 162 [v] w λr w'=>Ext w w'/\Own w.heap.size w' r t
def zrt {t:DTerm} (ih:∀ x∈t.kids,zy8 x):zy8 t:=by
 intro _ _ _ h e _;have hkl:t.kids.length<=1048576:=by have:=zEv t;have:=zyB t.kids;omega
 have gs:∀ x∈t.kids,wT x<=1048576:=λx hx=>by have:=zEv t;have:=zyB t.kids;have:=zGq wT hx;omega
 refine co (g:=kf [] [(3,1073737744,[4])] [(5,[0,1,2,3,4,5,6,7,8,9,10,11],384)]) Tryz.func162 ?_;refine zbp h e λw1 gi hA=>?_;have hs1:=gi.size;refine zaL zv5 λw2 D gj=>?_;have hg2:=gj.lt;have hs2:=D.size;refine zaa zdK<|zac ty3 (zbT hA) D λg5=>zaa zeG<|zac ty3 (zcv hA) D λgl=>zaa zdX<|zar ty9 (zb3 hA) D λg0=>zaF (cells:=#[.int .i64 t.kind,.int .i64 t.num,.string t.name,.slice none 0 0]) kK<|zaL zv5 λw3 g9 gp=>?_;have hg3:=gp.lt;have hs3:=g9.size;refine zaz (x:=DTerm.mk t.kind t.num t.name []) (lo:=w3.heap.size) (hi:=w3.heap.size) zbl rfl gp rfl (zgq g5 gl g0 zb1) λw4 gb gt=>?_;have hs4:=gb.size;have gc:Ext w1 w4:=Ext.chgI (D.t g9) gb oo
 refine zap t.kids.length (λk us w'=>us=[.int .i64 (k:Int)]/\∃ v1 hi,hi<=w'.heap.size/\w4.heap.size<=hi/\Ext w1 w'/\Blk w2.heap.size 149 w' [.int .i64 t.kind,.int .i64 t.num,.string t.name,v1] /\
     RowI w4.heap.size hi 149 w' v1 (t.kids.take k)/\Blk w1.heap.size 149 w' [.int .i64 0,.int .i64 0,.string ByteArray.empty,.slice none 0 0]/\k<=t.kids.length) 0 (z0 _)
     ⟨rfl,.slice none 0 0,w4.heap.size,lr _,qaz _,gc,gt,zb7 _ _ _ _,(gj.ext g9).chgI gb oo,qbP _⟩ ?_
 rintro k m _ w5 _ ⟨hu,v1,hi,_,_,I,gd,r5,g1,_⟩;try replace hu:=zbv hu
 rw [hu];have hs5:=I.size;refine zaa zbL<|zab zd7 (za0 hA) I λ_ gx=>zae zio gx<|zaf<|br (λ_=>?_) (λ_=>?_)
 . have hk:k<t.kids.length:=oo;have g2:=zag w5;have hs6:=g2.size;have C:=I.t g2;refine zaa zbL<|zan zd7 (gd.ext g2) rfl<|zaa zbL<|zab zd7 (za0 hA) C λ_ gy=>zad zio zbl gy hk λ_ _ gf=>zab zbl gf C λ_ gz=>?_;refine (ih _ (qac hk) gz C (gs _ (qac hk))).mono ?_;rintro _ _ ⟨gg,gh⟩;have gh:=gh.toI;have hs7:=gg.size;refine ⟨gg,?_⟩;have r:=g2.t gg;refine zlo (α:=DTerm) zio zbl zHe zHf qd (r5.ext r) oo gh oo oo (by rw [zaj,qaj];omega) (by rw [qaj];omega) λgC w8 g3 r8=>?_;have hs8:=g3.size;refine zaa zbL<|za3 (α:=List DTerm) zd7 rfl rfl ((gd.ext r).chgI g3 oo) sS r8.own λ_ g4 gD=>?_;have hs9:=g4.size;refine zau<|⟨m-1,oo,k+1,oo,rfl,gC,w8.heap.size,oo,oo,Ext.chgI (Ext.chgI (I.t r) g3 oo) g4 oo,gD,?_,((g1.ext r).chgI g3 oo).chgI g4 oo,oo⟩;have:=r8.chg g4 oo;rwa [<-tk hk] at this
 have hk:t.kids.length<=k:=oo;refine zck gd zbl ?_;have hI:=(show I64 t.kind from g5)
 have gq:OwnI w4.heap.size hi w5 (.agg #[.int .i64 t.kind,.int .i64 t.num,.string t.name,v1]) t:=by
   have:=zgq g5 gl g0 r5.own;rwa [qaf hk,DTerm.eta] at this
 refine zaz zbl rfl g1 rfl gq λ_ gr gE=>zcl gE zbl<|⟨Ext.chgI (gi.t I) gr oo,(gq.chg gr oo).own.mono oo⟩
def zkB (t:DTerm):zy8 t:=DTerm.ind (λt ih {_ _ _}=>zrt ih) t
section
variable (G L P:List ByteArray)
mutual
def emS:DStmt->Nat->List DIns
  | .mk k n t b e,at_=>
    if k=1 then [⟨1,plc n G,t,0⟩]
    else if k=4 then [⟨4,plc n P,term0,0⟩]
    else if k=5 then [⟨5,plc n P,term0,0⟩]
    else if k=6 then [⟨6,plc n L,term0,0⟩]
    else if k=7 then [⟨7,plc n L,term0,0⟩]
    else if k=8 then [⟨8,0,term0,0⟩]
    else if k=3 then ⟨2,0,t,((at_+1+(emL b (at_+1)).length+1:Nat):Int)⟩ :: (emL b (at_+1)++[⟨3,0,term0,(at_:Int)⟩])
    else if k=2 then
      (if e.length=0 then ⟨2,0,t,((at_+1+(emL b (at_+1)).length:Nat):Int)⟩ :: emL b (at_+1)
      else ⟨2,0,t,((at_+1+(emL b (at_+1)).length+1:Nat):Int)⟩ :: (emL b (at_+1) ++
        (⟨3,0,term0,((at_+1+(emL b (at_+1)).length+1+(emL e (at_+1+(emL b (at_+1)).length+1)).length:Nat):Int)⟩ :: emL e (at_+1+(emL b (at_+1)).length+1))))
    else []
def emL:List DStmt->Nat->List DIns
  | [],_=>[]
  | x :: l,at_=>emS x at_++emL l (at_+(emS x at_).length)
end
def InsQ (x:DIns) (lo hi:Nat):Prop:=1<=x.op/\x.op<=8 /\
 (0<=x.arg/\x.arg<if x.op=1 then (G.length:Int) else if x.op=4\/x.op=5 then P.length else if x.op=6\/x.op=7 then L.length else 1) /\
 (if x.op=1\/x.op=2 then TmR G x.term else x.term=term0)/\(if x.op=2\/x.op=3 then (lo:Int)<=x.to/\x.to<=hi else x.to=0)
end
section
variable {G L P:List ByteArray}
def InsQ.mono {x:DIns} {lo hi lo' hi':Nat} (h:InsQ G L P x lo hi) (h1:lo'<=lo) (h2:hi<=hi'):InsQ G L P x lo' hi':=by
 obtain ⟨a,b,c,d,e⟩:=h;refine ⟨a,b,c,d,?_⟩;split at e
 . rename_i hh;rw [qah hh];omega
 rename_i hh;rw [qab hh];exact e
def zru {n:ByteArray} {l:List ByteArray} (h:n∈l):0<=plc n l/\plc n l<l.length:=⟨zgb.2 h,zl8.2⟩
def zDw {op arg to:Int} {t:DTerm} {lo hi:Nat} (h1:1<=op) (h1':op<=8) (h2:0<=arg/\arg<if op=1 then (G.length:Int) else if op=4\/op=5 then P.length else if op=6\/op=7 then L.length else 1)
   (h3:if op=1\/op=2 then TmR G t else t=term0) (h4:if op=2\/op=3 then (lo:Int)<=to/\to<=hi else to=0):InsQ G L P ⟨op,arg,t,to⟩ lo hi:=⟨h1,h1',h2,h3,h4⟩
def zy9 {t:DTerm} (ht:TmR G t) {to lo hi:Nat} (h1:lo<=to) (h2:to<=hi):InsQ G L P ⟨2,0,t,(to:Int)⟩ lo hi:=
 zDw qd qd (by rw [qab qd,qab qd,qab qd];decide) (by rw [qah (.inr rfl)];exact ht) (by rw [qah (.inl rfl)];omega)
def zDx {to lo hi:Nat} (h1:lo<=to) (h2:to<=hi):InsQ G L P ⟨3,0,term0,(to:Int)⟩ lo hi:=
 zDw qd qd (by rw [qab qd,qab qd,qab qd];decide) (by rw [qab qd]) (by rw [qah (.inr rfl)];omega)
theorem zHx {c:Scp} (hG:G=c.gl) (hL:L=c.lk) (hP:∀ x∈c.pr,x∈P):∀ (n:Nat),
   (∀ (t:DStmt) (a:Nat),StR c n t->(∀ x∈emS G L P t a,InsQ G L P x a (a+(emS G L P t a).length))/\(emS G L P t a).length<=2*szS t) /\
   ∀ (l:List DStmt) (a:Nat),(∀ x∈l,StR c n x)->(∀ x∈emL G L P l a,InsQ G L P x a (a+(emL G L P l a).length))/\(emL G L P l a).length<=2*szL l:=by
 have hl:∀ n,(∀ (t:DStmt) (a:Nat),StR c n t->(∀ x∈emS G L P t a,InsQ G L P x a (a+(emS G L P t a).length))/\(emS G L P t a).length<=2*szS t) ->
     ∀ (l:List DStmt) (a:Nat),(∀ x∈l,StR c n x)->(∀ x∈emL G L P l a,InsQ G L P x a (a+(emL G L P l a).length))/\(emL G L P l a).length<=2*szL l:=by
   intro n hs l
   induction l with
   | nil=>intro a _;rw [emL];exact ⟨(λx hx=>by cases hx),qbP _⟩
   | cons t l ih=>
     intro a h;have h1:=hs t a (h t sS);have h2:=ih (a+(emS G L P t a).length) λx hx=>h x (by simp [hx]);rw [emL,szL];generalize emS G L P t a=u at *;generalize emL G L P l (a+u.length)=v at *;rw [qag];refine ⟨λx hx=>?_,oo⟩;rcases qae.1 hx with hx | hx
     . exact (h1.1 x hx).mono (lr _) oo
     exact (h2.1 x hx).mono oo oo
 have h0:∀ (t:DStmt) (a:Nat),St0 c t->(∀ x∈emS G L P t a,InsQ G L P x a (a+(emS G L P t a).length))/\(emS G L P t a).length<=2*szS t:=by
   rintro ⟨k,n,t,b,e⟩ a h;rw [emS,szS];rcases h with ⟨hk,hn,ht,_,_⟩ | ⟨hk,hn,_⟩ | ⟨hk,hn,_⟩ | ⟨hk,hn,_⟩
   . have hk:k=1:=hk;have hn:n∈c.gl:=hn;rw [qah hk];refine ⟨λx hx=>?_,by simp;omega⟩;simp only [qaa,qad,qaq] at hx;subst hx;exact zDw qd qd (by rw [qah rfl];exact zru (by rw [hG];exact hn)) (by rw [qah (.inl rfl)];exact hG▸ht) (by rw [qab qd])
   . have hk:k=4\/k=5:=hk;have hn:n∈c.pr:=hn;rw [qab oo];rcases hk with hk | hk
     . rw [qah hk];refine ⟨λx hx=>?_,by simp;omega⟩;simp only [qaa,qad,qaq] at hx;subst hx;exact zDw qd qd (by rw [qab qd,qah (.inl rfl)];exact zru (hP _ hn)) (by rw [qab qd]) (by rw [qab qd])
     rw [qab oo,qah hk];refine ⟨λx hx=>?_,by simp;omega⟩;simp only [qaa,qad,qaq] at hx;subst hx;exact zDw qd qd (by rw [qab qd,qah (.inr rfl)];exact zru (hP _ hn)) (by rw [qab qd]) (by rw [qab qd])
   . have hk:k=6\/k=7:=hk;have hn:n∈c.lk:=hn;rw [qab oo,qab oo,qab oo];rcases hk with hk | hk
     . rw [qah hk];refine ⟨λx hx=>?_,by simp;omega⟩;simp only [qaa,qad,qaq] at hx;subst hx;exact zDw qd qd (by rw [qab qd,qab qd,qah (.inl rfl)];exact zru (by rw [hL];exact hn)) (by rw [qab qd]) (by rw [qab qd])
     rw [qab oo,qah hk];refine ⟨λx hx=>?_,by simp;omega⟩;simp only [qaa,qad,qaq] at hx;subst hx;exact zDw qd qd (by rw [qab qd,qab qd,qah (.inr rfl)];exact zru (by rw [hL];exact hn)) (by rw [qab qd]) (by rw [qab qd])
   have hk:k=8:=hk;rw [qab oo,qab oo,qab oo,qab oo,qab oo,qah hk];refine ⟨λx hx=>?_,by simp;omega⟩;simp only [qaa,qad,qaq] at hx;subst hx;exact zDw qd qd (by rw [qab qd,qab qd,qab qd];decide) (by rw [qab qd]) (by rw [qab qd])
 intro n
 induction n with
 | zero=>exact ⟨λt a h=>h0 t a h.zero,hl 0 λt a h=>h0 t a h.zero⟩
 | succ n ih=>
   have hs:∀ (t:DStmt) (a:Nat),StR c (n+1) t->(∀ x∈emS G L P t a,InsQ G L P x a (a+(emS G L P t a).length))/\(emS G L P t a).length<=2*szS t:=by
     intro t a h;rcases h.succ with h | ⟨hk,hn,ht,hb,he⟩
     . exact h0 t a h
     obtain ⟨k,_,t,b,e⟩:=t;have hq:k=2\/k=3/\e=[]:=hk;clear hk;replace ht:TmR G t:=hG▸ht;have h1:=ih.2 b (a+1) hb;have h2:=ih.2 e (a+1+(emL G L P b (a+1)).length+1) he;rw [emS,szS,qab oo,qab oo,qab oo,qab oo,qab oo,qab oo];generalize emL G L P b (a+1)=u at *;generalize emL G L P e (a+1+u.length+1)=v at *;rcases hq with hq | ⟨hq,rfl⟩
     . rw [qab oo,qah hq];split
       . refine ⟨λx hx=>?_,by simp only [qak];omega⟩;rw [qak];rcases qaa.1 hx with rfl | hx
         . exact zy9 ht oo oo
         exact (h1.1 x hx).mono oo oo
       rename_i hne;refine ⟨λx hx=>?_,?_⟩
       . simp only [qak,qag];rcases qaa.1 hx with rfl | hx
         . exact zy9 ht oo oo
         rcases qae.1 hx with hx | hx
         . exact (h1.1 x hx).mono oo oo
         rcases qaa.1 hx with rfl | hx
         . exact zDx oo oo
         exact (h2.1 x hx).mono oo oo
       have:=zpJ e;simp only [qak,qag];omega
     rw [qah hq];refine ⟨λx hx=>?_,by simp only [qak,qag,qaC];omega⟩;simp only [qak,qag,qaC];rcases qaa.1 hx with rfl | hx
     . exact zy9 ht oo oo
     rcases qae.1 hx with hx | hx
     . exact (h1.1 x hx).mono oo oo
     simp only [qaa,qad,qaq] at hx;subst hx;exact zDx oo oo
   exact ⟨hs,hl (n+1) hs⟩
end
def zER:DIns:=⟨9,0,term0,0⟩
section
variable (G L P:List ByteArray)
def emP:List DProc->Nat->List DIns
 | [],_=>[]
 | x :: l,a=>emL G L P x.body a++(zER :: emP l (a+(emL G L P x.body a).length+1))
def zrv:List DProc->Nat->List Int
 | [],_=>[]
 | x :: l,a=>(a:Int) :: zrv l (a+(emL G L P x.body a).length+1)
end
def zcf (p:DProg):DCode:=
 ⟨p.globals,p.locks,p.procs.map DProc.name,zrv p.globals p.locks (p.procs.map DProc.name) p.procs 0,emP p.globals p.locks (p.procs.map DProc.name) p.procs 0⟩
theorem zly (G L P:List ByteArray):∀ (l:List DProc) (a:Nat),(zrv G L P l a).length=l.length
 | [],_=>by rw [zrv];rfl
 | x :: l,a=>by rw [zrv,qak,qak,zly G L P l]
theorem zDy (G L P:List ByteArray):∀ (l:List DProc) (a i:Nat) (hi:i<l.length),∃ s,(zrv G L P l a)[i]?=some ((a+s:Nat):Int)/\s+(emL G L P l[i].body (a+s)).length+1<=(emP G L P l a).length /\
   (∀ k,k<(emL G L P l[i].body (a+s)).length->(emP G L P l a)[s+k]?=(emL G L P l[i].body (a+s))[k]?)/\(emP G L P l a)[s+(emL G L P l[i].body (a+s)).length]?=some zER /\
   (i=0->s=0)/\(i+1<l.length->(zrv G L P l a)[i+1]?=some ((a+s+(emL G L P l[i].body (a+s)).length+1:Nat):Int))/\(i+1=l.length->s+(emL G L P l[i].body (a+s)).length+1=(emP G L P l a).length)
 | x :: l,a,0,hi=>by
   refine ⟨0,?_⟩;simp only [qco,qa7,qb3];rw [zrv,emP];generalize emL G L P x.body a=u;refine ⟨sS,sS,λk hk=>List.getElem?_append_left hk,sS,sS,λh=>?_,λh=>?_⟩
   . cases l with
     | nil=>simp at h
     | cons y l=>rw [zrv];rfl
   have:l=[]:=qan (by simpa using h);subst this;rw [emP];simp
 | x :: l,a,i+1,hi=>by
   obtain ⟨s,h1,_,h3,h4,_,h6,h7⟩:=zDy G L P l (a+(emL G L P x.body a).length+1) i (by simpa using hi);refine ⟨(emL G L P x.body a).length+1+s,?_⟩;simp only [qc5];rw [zrv,emP];have e:a+((emL G L P x.body a).length+1+s)=a+(emL G L P x.body a).length+1+s:=oo;rw [e];generalize emL G L P x.body a=u at *;have g0:i<l.length:=by simpa using hi
   generalize emL G L P (l[i]'g0).body (a+u.length+1+s)=v at *
   have sh:∀ (q:Nat) (m:List DIns),(u++zER :: m)[u.length+1+q]?=m[q]?:=by
     intro q m;rw [List.getElem?_append_right oo,show u.length+1+q-u.length=q+1 by omega,List.getElem?_cons_succ]
   refine ⟨by simpa using h1,by simp only [qag,qak];omega,λk hk=>?_,?_,λh=>oo,λh=>?_,λh=>?_⟩
   . rw [show u.length+1+s+k=u.length+1+(s+k) by omega,sh];exact h3 k hk
   . rw [show u.length+1+s+v.length=u.length+1+(s+v.length) by omega,sh];exact h4
   . rw [List.getElem?_cons_succ];exact h6 (by simpa using h)
   have:=h7 (by simpa using h);simp only [qag,qak];omega
theorem zza (G L P:List ByteArray) {m:Nat}:∀ (l:List DProc) (a:Nat),(∀ x∈l,∀ b,(emL G L P x.body b).length<=m)->(emP G L P l a).length<=l.length*(m+1)
 | [],_,_=>by rw [emP];simp
 | x :: l,a,h=>by
   have h1:=h x sS a;have h2:=zza G L P l (a+(emL G L P x.body a).length+1) λy hy=>h y (by simp [hy]);rw [emP,qag,qak,qak,qbp,qbN];omega
def zpP {α:Type} {l:List α} {x d:α} (h:l[i]?=some x):l.getD i d=x:=by rw [List.getD_eq_getElem?_getD,h];rfl
theorem zrw:∀ k,k<4->(prc4.take (1+k)).length<=4/\(prc4.take (1+k)).all zbD=true/\(prc4.take (1+k)).Nodup/\zip∈prc4.take (1+k)
 | 0,_=>by decide
 | 1,_=>by decide
 | 2,_=>by decide
 | 3,_=>by decide
 | k+4,h=>absurd h oo
def code_at {p:DProg} (hp:ProgR p) {i:Nat} (hi:i<p.procs.length):∃ s n:Nat,en (zcf p) i=(s:Int)/\zeX (zcf p) i=((s+n+1:Nat):Int)/\s+n+1<=(zcf p).ins.length /\
   (∀ k,k<n->InsQ (zcf p).globals (zcf p).locks (zcf p).procs (zal (zcf p) (s+k)) s (s+n))/\zal (zcf p) (s+n)=zER/\(i=0->s=0):=by
 obtain ⟨s,h1,h2,h3,h4,h5,h6,h7⟩:=zDy p.globals p.locks (p.procs.map DProc.name) p.procs 0 i hi;simp only [qa7] at h1 h2 h3 h4 h5 h6 h7;have hb:=hp.b _ (qac hi);have hr:=(zHx (G:=p.globals) (L:=p.locks) (P:=p.procs.map DProc.name) (c:=⟨p.globals,p.locks,(p.procs.map DProc.name).drop 1⟩) rfl rfl (λ_ hx=>qbO hx) 2).2 p.procs[i].body s hb.1;generalize emL p.globals p.locks (p.procs.map DProc.name) p.procs[i].body s=u at *;refine ⟨s,u.length,zpP h1,?_,h2,λk hk=>?_,zpP h4,h5⟩
 . unfold zeX;have hl:(zcf p).entry.length=p.procs.length:=zly _ _ _ _ _;split
   . rename_i hh;exact zpP (h6 oo)
   rename_i hh;show ((emP _ _ _ _ _).length:Int)=_;rw [<-h7 oo]
 have e:zal (zcf p) (s+k)=u[k]:=zpP (by
   have:=h3 k hk;rw [List.getElem?_eq_getElem hk] at this;exact this)
 rw [e];exact (hr.1 _ (qac hk)).mono (lr _) (lr _)
def zh5 {p:DProg} (hp:ProgR p):CodeR (zcf p)/\(zcf p).ins.length<=436:=by
 obtain ⟨k,hk,hn⟩:=hp.n;obtain ⟨n1,n2,n3,n4⟩:=zrw k hk;have hl:(zcf p).entry.length=p.procs.length:=zly _ _ _ _ _;have g0:(p.procs.map DProc.name).length=p.procs.length:=qaD _;have hp4:p.procs.length<=4:=by rw [<-g0,hn];exact n1
 have hN:NamesR (zcf p):=by
   refine ⟨?_,?_,?_,?_,?_,?_,?_⟩
   . show (decide ((p.globals.length:Int)<=6)&&p.globals.all zbD)=true;rcases hp.g with e | e<;>(rw [e];decide)
   . show (decide ((p.locks.length:Int)<=6)&&p.locks.all zbD)=true;rcases hp.l with e | e | e<;>(rw [e];decide)
   . show (decide (((p.procs.map DProc.name).length:Int)<=8)&&(p.procs.map DProc.name).all zbD)=true;rw [hn,n2,decide_eq_true oo];rfl
   . show p.globals.Nodup;rcases hp.g with e | e<;>(rw [e];decide)
   . show p.locks.Nodup;rcases hp.l with e | e | e<;>(rw [e];decide)
   . show (p.procs.map DProc.name).Nodup;rw [hn];exact n3
   show zip∈p.procs.map DProc.name;rw [hn];exact n4
 have g1:(zcf p).ins.length<=436:=by
   have:=zza p.globals p.locks (p.procs.map DProc.name) (m:=108) p.procs 0 λx hx b=>by
     have hb:=hp.b x hx;have hr:=(zHx (G:=p.globals) (L:=p.locks) (P:=p.procs.map DProc.name) (c:=⟨p.globals,p.locks,(p.procs.map DProc.name).drop 1⟩) rfl rfl (λx hx=>qbO hx) 2).2 x.body b hb.1;have:=hb.2;omega
   show (emP _ _ _ _ _).length<=436;omega
 have h0:0<p.procs.length:=by
   rw [<-g0,hn];exact qb4 n4
 have hF:EntF (zcf p):=by
   refine ⟨by rw [hl];exact g0.symm,oo,?_,λi hi=>?_⟩
   . obtain ⟨s,n,e1,_,_,_,_,e0⟩:=code_at hp h0;rw [e1,e0 rfl];rfl
   obtain ⟨s,n,e1,e2,e3,_,_,_⟩:=code_at hp (i:=i) oo;rw [e1,e2];omega
 have g2:0<(zcf p).procs.length:=by show 0<(p.procs.map DProc.name).length;omega
 have r:∀ j:Nat,j<(zcf p).ins.length->∃ i s n:Nat,i<p.procs.length/\en (zcf p) i=(s:Int)/\zeX (zcf p) i=((s+n+1:Nat):Int)/\s<=j/\j<=s+n/\zas (zcf p) j=i /\
     (∀ k,k<n->InsQ (zcf p).globals (zcf p).locks (zcf p).procs (zal (zcf p) (s+k)) s (s+n))/\zal (zcf p) (s+n)=zER:=by
   intro j hj;obtain ⟨i,hi,a1,a2,a3⟩:=hF.find g2 (a:=(j:Int)) oo oo;obtain ⟨s,n,e1,e2,e3,e4,e5,_⟩:=code_at hp (i:=i) oo;rw [e1] at a1;rw [e2] at a2;exact ⟨i,s,n,oo,e1,e2,oo,oo,a3,e4,e5⟩
 have C:∀ (i:Nat),zgd (zcf p) i=zeX (zcf p) i-1:=λi=>zeh _ i;refine ⟨⟨hN,⟨hF.len,hF.ins,λi hi=>⟨λh=>by subst h;exact hF.zero,λh=>?_,?_⟩,λj hj=>?_⟩,λj hj=>?_⟩,g1⟩
 . have h1:=(hF.lt (i-1) oo).1;rw [hF.step oo,show i-1+1=i by omega] at h1;exact h1
 . have:=hF.lt i hi;omega
 . obtain ⟨i,s,n,hi,e1,e2,a1,a2,a3,e4,e5⟩:=r j hj;rw [a3,C,e2];constructor
   . intro h9;by_cases hjn:j=s+n
     . omega
     have:=e4 (j-s) oo;rw [show s+(j-s)=j by omega] at this;have:=this.2.1;omega
   intro h9;have:j=s+n:=oo;rw [this,e5];rfl
 obtain ⟨i,s,n,hi,e1,e2,a1,a2,a3,e4,e5⟩:=r j hj;rw [a3,C,e2];simp only [qal];rw [e1];by_cases hjn:j=s+n
 . rw [hjn,e5]
   have ha:(0:Int)<zcz (zcf p) 9:=by
     unfold zcz;rw [qab qd,qab qd,qab qd];decide
   refine ⟨qd,⟨qd,ha⟩,by rw [qab qd];rfl,by rw [qab qd];rfl⟩
 have hq:=e4 (j-s) oo;rw [show s+(j-s)=j by omega] at hq;generalize zal (zcf p) j=x at *;obtain ⟨q1,_,q3,q4,q5⟩:=hq;refine ⟨⟨q1,oo⟩,?_,?_,?_⟩
 . unfold zcz;exact q3
 . split at q4
   . rename_i hh;rw [qah hh];refine ⟨q4.1,λy hy=>?_⟩;show y∈p.globals;exact q4.2.1 y hy
   rename_i hh;rw [qab hh];exact q4
 split at q5
 . rename_i hh;rw [qah hh];omega
 rename_i hh;rw [qab hh];exact q5
def zHy (t:DStmt):Prop:=(t.kind=1/\zbD t.name=true/\zbj 6 t.term=true/\t.body=[]/\t.els=[])\/((t.kind=4\/t.kind=5\/t.kind=6\/t.kind=7)/\zbD t.name=true/\t.term=term0/\t.body=[]/\t.els=[]) \/
 (t.kind=8/\t.name=ByteArray.mk #[]/\t.term=term0/\t.body=[]/\t.els=[])\/(t.kind=2/\t.name=ByteArray.mk #[]/\zbj 6 t.term=true)\/(t.kind=3/\t.name=ByteArray.mk #[]/\zbj 6 t.term=true/\t.els=[])
def zG5 (c:Scp):Prop:=(∀ x∈c.gl,zbD x=true)/\(∀ x∈c.lk,zbD x=true)/\∀ x∈c.pr,zbD x=true
theorem StR.one {c:Scp} {t:DStmt} (hp:zG5 c) (h:StR c n t):zHy t:=by
 have h0:St0 c t->zHy t:=λh=>by
   rcases h with ⟨h1,h2,h3,h4,h5⟩ | ⟨h1,h2,h3,h4,h5⟩ | ⟨h1,h2,h3,h4,h5⟩ | ⟨h1,h2,h3,h4,h5⟩
   . exact .inl ⟨h1,hp.1 _ h2,h3.1,h4,h5⟩
   . exact .inr (.inl ⟨oo,hp.2.2 _ h2,h3,h4,h5⟩)
   . exact .inr (.inl ⟨oo,hp.2.1 _ h2,h3,h4,h5⟩)
   exact .inr (.inr (.inl ⟨h1,h2,h3,h4,h5⟩))
 cases n with
 | zero=>exact h0 h.zero
 | succ n=>
   rcases h.succ with h | ⟨h1,h2,h3,h4,h5⟩
   . exact h0 h
   rcases h1 with h1 | ⟨h1,h6⟩
   . exact .inr (.inr (.inr (.inl ⟨h1,h2,h3.1⟩)))
   exact .inr (.inr (.inr (.inr ⟨h1,h2,h3.1,h6⟩)))
def zzb {t:DStmt}  (h0:Is W0 v0 t) (e0:Ext W0 w) (hr:zHy t) :
   CALL tp 278 [v0] w λr w'=>Ext w w'/\(r=.bool true):=by
 refine co (g:=kf [] [] []) Tryz.func278 ?_
 have X:t.kind≠2->t.kind≠3->t.body=[]/\t.els=[]:=λ_ _=>by
   rcases hr with ⟨k1,k2,k3,k4,k5⟩ | ⟨k1,k2,k3,k4,k5⟩ | ⟨k1,k2,k3,k4,k5⟩ | ⟨k1,k2,k3⟩ | ⟨k1,k2,k3,k4⟩
   . exact ⟨k4,k5⟩
   . exact ⟨k4,k5⟩
   . exact ⟨k4,k5⟩
   . omega
   omega
 refine zax zb6 rfl h0 e0 λY y1 C _=>zaa zhn<|zab zbl (zdZ C) (xrf Y) λ_ h5=>zaF (cells:=#[.int .i64 0,.int .i64 0,.string ByteArray.empty,.slice none 0 0]) kK ?_;have o6:OwnI (α:=DTerm) Y.heap.size Y.heap.size Y (.agg #[.int .i64 0,.int .i64 0,.string ByteArray.empty,.slice none 0 0]) RepZ.zv:=zyT;refine (zk3 h5 (xrf Y) o6.is (xrf Y) rfl).mono ?_;rintro _ _ ⟨y2,rfl⟩;refine zaa zfd<|zac ty3 (zdb C) y2 λ_=>zai<|br (λc1=>?_) (λc1=>?_)
 . refine zaa zdh ?_;refine zar ty9 (zbV C) y2 λ_=>?_;refine (specIsName_ok ).mono ?_;rintro _ _ ⟨y3,rfl⟩;refine zbX (λc2=>?_) (λc2=>?_)
   . refine zaa zhn ?_;refine zab zbl (zdZ C) (y2.t y3) λ_ gb=>?_;refine (zc2 gb (y2.t y3)).mono ?_;rintro _ _ ⟨y4,rfl⟩;refine zbX (λc3=>?_) (λc3=>?_)
     . refine zaa zfe ?_;refine zab zd6 (zdF C) (y2.t (y3.t y4)) λ_ g2=>?_;have:=zak g2;refine zae zf9 g2<|zaa zeg<|zab zd6 (zdc C) (y2.t (y3.t y4)) λ_ g3=>?_;have:=zak g3;refine zae zf9 g3<|zcY (by obtain ⟨q1,q2⟩:=X oo oo;rw [q1,q2];simp [I64])<|zai<|⟨(y1.t (y2.t (y3.t y4))),?_⟩;rcases hr with ⟨k1,k2,k3,k4,k5⟩ | ⟨k1,k2,k3,k4,k5⟩ | ⟨k1,k2,k3,k4,k5⟩ | ⟨k1,k2,k3⟩ | ⟨k1,k2,k3,k4⟩<;>first | (exfalso;omega) | simp_all
     refine ⟨(y1.t (y2.t (y3.t y4))),?_⟩;rcases hr with ⟨k1,k2,k3,k4,k5⟩ | ⟨k1,k2,k3,k4,k5⟩ | ⟨k1,k2,k3,k4,k5⟩ | ⟨k1,k2,k3⟩ | ⟨k1,k2,k3,k4⟩<;>first | (exfalso;omega) | simp_all
   refine ⟨(y1.t (y2.t y3)),?_⟩;rcases hr with ⟨k1,k2,k3,k4,k5⟩ | ⟨k1,k2,k3,k4,k5⟩ | ⟨k1,k2,k3,k4,k5⟩ | ⟨k1,k2,k3⟩ | ⟨k1,k2,k3,k4⟩<;>first | (exfalso;omega) | simp_all
 refine zai<|br (λc4=>?_) (λc4=>?_)
 . refine zaa zdh ?_;refine zar ty9 (zbV C) y2 λ_=>zaQ<|br (λc5=>?_) (λc5=>?_)
   . refine zaa zhn ?_;refine zab zbl (zdZ C) y2 λ_ gc=>?_;refine (zc2 gc y2).mono ?_;rintro _ _ ⟨y5,rfl⟩;refine ⟨(y1.t (y2.t y5)),?_⟩;rcases hr with ⟨k1,k2,k3,k4,k5⟩ | ⟨k1,k2,k3,k4,k5⟩ | ⟨k1,k2,k3,k4,k5⟩ | ⟨k1,k2,k3⟩ | ⟨k1,k2,k3,k4⟩<;>first | (exfalso;omega) | simp_all
   refine ⟨(y1.t y2),?_⟩;rcases hr with ⟨k1,k2,k3,k4,k5⟩ | ⟨k1,k2,k3,k4,k5⟩ | ⟨k1,k2,k3,k4,k5⟩ | ⟨k1,k2,k3⟩ | ⟨k1,k2,k3,k4⟩<;>first | (exfalso;omega) | simp_all
 refine zai<|br (λc6=>?_) (λc6=>?_)
 . refine zaa zdh ?_;refine zar ty9 (zbV C) y2 λ_=>zaQ<|br (λc7=>?_) (λc7=>?_)
   . refine zaa zhn ?_;refine zab zbl (zdZ C) y2 λ_ gd=>?_;refine (zc2 gd y2).mono ?_;rintro _ _ ⟨y6,rfl⟩;refine zbX (λc8=>?_) (λc8=>?_)
     . refine zaa zeg ?_;refine zab zd6 (zdc C) (y2.t y6) λ_ g4=>?_;have:=zak g4;refine zae zf9 g4<|zai<|⟨(y1.t (y2.t y6)),?_⟩;rcases hr with ⟨k1,k2,k3,k4,k5⟩ | ⟨k1,k2,k3,k4,k5⟩ | ⟨k1,k2,k3,k4,k5⟩ | ⟨k1,k2,k3⟩ | ⟨k1,k2,k3,k4⟩<;>first | (exfalso;omega) | simp_all
     refine ⟨(y1.t (y2.t y6)),?_⟩;rcases hr with ⟨k1,k2,k3,k4,k5⟩ | ⟨k1,k2,k3,k4,k5⟩ | ⟨k1,k2,k3,k4,k5⟩ | ⟨k1,k2,k3⟩ | ⟨k1,k2,k3,k4⟩<;>first | (exfalso;omega) | simp_all
   refine ⟨(y1.t y2),?_⟩;rcases hr with ⟨k1,k2,k3,k4,k5⟩ | ⟨k1,k2,k3,k4,k5⟩ | ⟨k1,k2,k3,k4,k5⟩ | ⟨k1,k2,k3⟩ | ⟨k1,k2,k3,k4⟩<;>first | (exfalso;omega) | simp_all
 refine zai<|br (λc9=>?_) (λc9=>?_)
 . refine zaa zdh ?_;refine zar ty9 (zbV C) y2 λV=>?_;refine (specIsName_ok ).mono ?_;rintro _ _ ⟨y7,rfl⟩;refine zbX (λgf=>?_) (λgf=>?_)
   . refine br (λgg=>?_) (λgg=>?_)
     . refine zaa zfe ?_;refine zab zd6 (zdF C) (y2.t y7) λg0 D=>?_;have I:=zak D;refine zae zf9 D<|zaa zeg<|zab zd6 (zdc C) (y2.t y7) λg1 O=>?_;have U:=zak O;refine zae zf9 O<|zcY (by obtain ⟨q1,q2⟩:=X oo oo;rw [q1,q2];simp [I64])<|zai<|⟨(y1.t (y2.t y7)),?_⟩;rcases hr with ⟨k1,k2,k3,k4,k5⟩ | ⟨k1,k2,k3,k4,k5⟩ | ⟨k1,k2,k3,k4,k5⟩ | ⟨k1,k2,k3⟩ | ⟨k1,k2,k3,k4⟩<;>first | (exfalso;omega) | simp_all
     refine ⟨(y1.t (y2.t y7)),?_⟩;rcases hr with ⟨k1,k2,k3,k4,k5⟩ | ⟨k1,k2,k3,k4,k5⟩ | ⟨k1,k2,k3,k4,k5⟩ | ⟨k1,k2,k3⟩ | ⟨k1,k2,k3,k4⟩<;>first | (exfalso;omega) | simp_all
   refine ⟨(y1.t (y2.t y7)),?_⟩;rcases hr with ⟨k1,k2,k3,k4,k5⟩ | ⟨k1,k2,k3,k4,k5⟩ | ⟨k1,k2,k3,k4,k5⟩ | ⟨k1,k2,k3⟩ | ⟨k1,k2,k3,k4⟩<;>first | (exfalso;omega) | simp_all
 refine zai<|br (λgh=>?_) (λgh=>?_)
 . refine zaa zdh ?_;refine zar ty9 (zbV C) y2 λV=>?_;refine (specIsName_ok ).mono ?_;rintro _ _ ⟨y8,rfl⟩;refine zbX (λgi=>?_) (λgi=>?_)
   . refine br (λgj=>?_) (λgj=>?_)
     . refine zaa zfe ?_;refine zab zd6 (zdF C) (y2.t y8) λg0 D=>?_;have I:=zak D;refine zae zf9 D<|zaa zeg<|zab zd6 (zdc C) (y2.t y8) λg1 O=>?_;have U:=zak O;refine zae zf9 O<|zcY (by obtain ⟨q1,q2⟩:=X oo oo;rw [q1,q2];simp [I64])<|zai<|⟨(y1.t (y2.t y8)),?_⟩;rcases hr with ⟨k1,k2,k3,k4,k5⟩ | ⟨k1,k2,k3,k4,k5⟩ | ⟨k1,k2,k3,k4,k5⟩ | ⟨k1,k2,k3⟩ | ⟨k1,k2,k3,k4⟩<;>first | (exfalso;omega) | simp_all
     refine ⟨(y1.t (y2.t y8)),?_⟩;rcases hr with ⟨k1,k2,k3,k4,k5⟩ | ⟨k1,k2,k3,k4,k5⟩ | ⟨k1,k2,k3,k4,k5⟩ | ⟨k1,k2,k3⟩ | ⟨k1,k2,k3,k4⟩<;>first | (exfalso;omega) | simp_all
   refine ⟨(y1.t (y2.t y8)),?_⟩;rcases hr with ⟨k1,k2,k3,k4,k5⟩ | ⟨k1,k2,k3,k4,k5⟩ | ⟨k1,k2,k3,k4,k5⟩ | ⟨k1,k2,k3⟩ | ⟨k1,k2,k3,k4⟩<;>first | (exfalso;omega) | simp_all
 refine zai<|br (λgl=>?_) (λgl=>?_)
 . refine zaa zdh ?_;refine zar ty9 (zbV C) y2 λV=>?_;refine (specIsName_ok ).mono ?_;rintro _ _ ⟨y9,rfl⟩;refine zbX (λgp=>?_) (λgp=>?_)
   . refine br (λgq=>?_) (λgq=>?_)
     . refine zaa zfe ?_;refine zab zd6 (zdF C) (y2.t y9) λg0 D=>?_;have I:=zak D;refine zae zf9 D<|zaa zeg<|zab zd6 (zdc C) (y2.t y9) λg1 O=>?_;have U:=zak O;refine zae zf9 O<|zcY (by obtain ⟨q1,q2⟩:=X oo oo;rw [q1,q2];simp [I64])<|zai<|⟨(y1.t (y2.t y9)),?_⟩;rcases hr with ⟨k1,k2,k3,k4,k5⟩ | ⟨k1,k2,k3,k4,k5⟩ | ⟨k1,k2,k3,k4,k5⟩ | ⟨k1,k2,k3⟩ | ⟨k1,k2,k3,k4⟩<;>first | (exfalso;omega) | simp_all
     refine ⟨(y1.t (y2.t y9)),?_⟩;rcases hr with ⟨k1,k2,k3,k4,k5⟩ | ⟨k1,k2,k3,k4,k5⟩ | ⟨k1,k2,k3,k4,k5⟩ | ⟨k1,k2,k3⟩ | ⟨k1,k2,k3,k4⟩<;>first | (exfalso;omega) | simp_all
   refine ⟨(y1.t (y2.t y9)),?_⟩;rcases hr with ⟨k1,k2,k3,k4,k5⟩ | ⟨k1,k2,k3,k4,k5⟩ | ⟨k1,k2,k3,k4,k5⟩ | ⟨k1,k2,k3⟩ | ⟨k1,k2,k3,k4⟩<;>first | (exfalso;omega) | simp_all
 refine zai<|br (λgr=>?_) (λgr=>?_)
 . refine zaa zdh ?_;refine zar ty9 (zbV C) y2 λV=>?_;refine (specIsName_ok ).mono ?_;rintro _ _ ⟨Z,rfl⟩;refine zbX (λgs=>?_) (λgs=>?_)
   . refine br (λgt=>?_) (λgt=>?_)
     . refine zaa zfe ?_;refine zab zd6 (zdF C) (y2.t Z) λg0 D=>?_;have I:=zak D;refine zae zf9 D<|zaa zeg<|zab zd6 (zdc C) (y2.t Z) λg1 O=>?_;have U:=zak O;refine zae zf9 O<|zcY (by obtain ⟨q1,q2⟩:=X oo oo;rw [q1,q2];simp [I64])<|zai<|⟨(y1.t (y2.t Z)),?_⟩;rcases hr with ⟨k1,k2,k3,k4,k5⟩ | ⟨k1,k2,k3,k4,k5⟩ | ⟨k1,k2,k3,k4,k5⟩ | ⟨k1,k2,k3⟩ | ⟨k1,k2,k3,k4⟩<;>first | (exfalso;omega) | simp_all
     refine ⟨(y1.t (y2.t Z)),?_⟩;rcases hr with ⟨k1,k2,k3,k4,k5⟩ | ⟨k1,k2,k3,k4,k5⟩ | ⟨k1,k2,k3,k4,k5⟩ | ⟨k1,k2,k3⟩ | ⟨k1,k2,k3,k4⟩<;>first | (exfalso;omega) | simp_all
   refine ⟨(y1.t (y2.t Z)),?_⟩;rcases hr with ⟨k1,k2,k3,k4,k5⟩ | ⟨k1,k2,k3,k4,k5⟩ | ⟨k1,k2,k3,k4,k5⟩ | ⟨k1,k2,k3⟩ | ⟨k1,k2,k3,k4⟩<;>first | (exfalso;omega) | simp_all
 refine zai<|br (λgx=>?_) (λgx=>?_)
 . refine zaa zdh ?_;refine zar ty9 (zbV C) y2 λ_=>zaQ<|br (λgy=>?_) (λgy=>?_)
   . refine br (λgz=>?_) (λgz=>?_)
     . refine zaa zfe ?_;refine zab zd6 (zdF C) y2 λ_ g5=>?_;have:=zak g5;refine zae zf9 g5<|zaa zeg<|zab zd6 (zdc C) y2 λ_ g9=>?_;have:=zak g9;refine zae zf9 g9<|zcY (by obtain ⟨q1,q2⟩:=X oo oo;rw [q1,q2];simp [I64])<|zai<|⟨(y1.t y2),?_⟩;rcases hr with ⟨k1,k2,k3,k4,k5⟩ | ⟨k1,k2,k3,k4,k5⟩ | ⟨k1,k2,k3,k4,k5⟩ | ⟨k1,k2,k3⟩ | ⟨k1,k2,k3,k4⟩<;>first | (exfalso;omega) | simp_all
     refine ⟨(y1.t y2),?_⟩;rcases hr with ⟨k1,k2,k3,k4,k5⟩ | ⟨k1,k2,k3,k4,k5⟩ | ⟨k1,k2,k3,k4,k5⟩ | ⟨k1,k2,k3⟩ | ⟨k1,k2,k3,k4⟩<;>first | (exfalso;omega) | simp_all
   refine ⟨(y1.t y2),?_⟩;rcases hr with ⟨k1,k2,k3,k4,k5⟩ | ⟨k1,k2,k3,k4,k5⟩ | ⟨k1,k2,k3,k4,k5⟩ | ⟨k1,k2,k3⟩ | ⟨k1,k2,k3,k4⟩<;>first | (exfalso;omega) | simp_all
 refine ⟨(y1.t y2),?_⟩;rcases hr with ⟨k1,k2,k3,k4,k5⟩ | ⟨k1,k2,k3,k4,k5⟩ | ⟨k1,k2,k3,k4,k5⟩ | ⟨k1,k2,k3⟩ | ⟨k1,k2,k3,k4⟩<;>first | (exfalso;omega) | simp_all
def zzc (c:Scp) (n:Nat) (l:List DStmt):Prop:=∀ {w W:wD} {v:vL} {d:Int},Is W v l->Ext W w->(∀ x∈l,StR c n x)->(n:Int)<=d->d<=6 ->
 CALL tp 264 [v,.int .i64 d] w λr w'=>Ext w w'/\r=.bool true
def zjB {c:Scp} {l:List DStmt} (hp:zG5 c) (ih:∀ m l,m+1=n->zzc c m l):zzc c n l:=by
 intro w _ _ _ h e hs _ _;have:=zak h;refine co (g:=kf [(6,66846848,[7])] [(2,36028797018963952,[5])] []) Tryz.func264 ?_;refine zap l.length (λk us w'=>us=[.int .i64 (k:Int)]/\Ext w w'/\k<=l.length) 0 (z0 _) ⟨rfl,xrf w,qbP _⟩ ?_;rintro k m _ _ _ ⟨hu,C,_⟩;try replace hu:=zbv hu
 rw [hu];refine zae zf9 h<|zaf<|br (λ_=>?_) (λ_=>?_)
 . have hk:k<l.length:=oo;obtain ⟨x,hx⟩:∃ x,x=l[k]:=⟨_,rfl⟩;have g3:StR c n x:=by rw [hx];exact hs _ (qac hk)
   refine zad zf9 zb6 h hk λ_ _ g0=>?_;rw [<-hx] at g0;refine zab zb6 g0 (e.trans C) λ_ gb=>zcP zv6 rfl zb6 rfl gb (e.trans C) λw2 g4 g2 gc=>JOIN.mk (λus w'=>us=[.bool (decide (x.kind=2\/x.kind=3))]/\Ext w2 w') ?_ ?_
   . refine zaa zfd ?_;refine zac ty3 (zdb g2) (xrf _) λhI=>zai<|br (λh2=>?_) (λh2=>?_)
     . exact ⟨by rw [decide_eq_true (.inl h2)],xrf _⟩
     refine zaa zfd<|zac ty3 (zdb g2) (xrf _) λhI=>zai<|⟨by simp [h2],xrf _⟩
   rintro _ _ ⟨hu,g5⟩;try replace hu:=zbv hu
   rw [hu];refine zbr gc g5 ?_;refine (zzb gb ((e.trans C).trans (g4.t g5)) (g3.one hp)).mono ?_;rintro _ _ ⟨gd,rfl⟩;have r:=g5.t gd;refine za2<|zbX (λhc=>by simp at hc) (λ_=>?_);refine gbr (λhm=>?_) (λhm=>?_)
   . have:0<n:=by
       rcases qbG n with h0 | h0
       . subst h0;rcases g3.zero with q | q | q | q<;>(have:=q.1;omega)
       exact h0
     have g1:(∀ y∈x.body,StR c (n-1) y)/\∀ y∈x.els,StR c (n-1) y:=by
       obtain ⟨q,rfl⟩:∃ q,n=q+1:=⟨n-1,oo⟩;rcases g3.succ with h | ⟨_,_,_,h4,h5⟩
       . exfalso;rcases h with q | q | q | q<;>(have:=q.1;omega)
       exact ⟨h4,h5⟩
     refine zai<|br (λhc=>oo) (λ_=>?_);refine gbr (λ_=>?_) (λhc=>absurd hm hc);refine zaa zfe<|zab zd6 (zdF g2) r λ_ gf=>zbe io ?_;refine (ih (n-1) _ oo gf r g1.1 oo oo).mono ?_;rintro _ _ ⟨g9,rfl⟩;refine za2<|zxE (λhc=>by simp at hc) (λ_=>?_);refine zaa zeg<|zab zd6 (zdc g2) (r.t g9) λ_ gg=>zbe io ?_;refine (ih (n-1) _ oo gg (r.t g9) g1.2 oo oo).mono ?_;rintro _ _ ⟨gh,rfl⟩;refine za2<|zbX (λhc=>by simp at hc) (λ_=>?_);refine zau<|⟨m-1,oo,k+1,oo,rfl,C.t (g4.t (r.t (g9.t gh))),oo⟩
   refine gbr (λhc=>absurd hc hm) (λ_=>?_);refine zau<|⟨m-1,oo,k+1,oo,rfl,C.t (g4.t r),oo⟩
 exact ⟨C,rfl⟩
theorem zmD {c:Scp} (hp:zG5 c):∀ (n:Nat) (l:List DStmt),zzc c n l
 | 0,l=>zjB (n:=0) (l:=l) hp (λm l h=>absurd h oo)
 | n + 1, l => zjB (n := n + 1) (l := l) hp λm l h => by
     obtain rfl:m=n:=oo;exact zmD hp m l
def zBu {c:Scp} {l:List DStmt} (hp:zG5 c) (h:Is W v l) (e:Ext W w) (hb:ztg c l):CALL tp 221 [v] w λr w'=>Ext w w'/\r=.bool true:=by
 refine co (g:=kf [] [] []) Tryz.func221 ?_;refine (zmt l h e oo oo).mono ?_;rintro _ _ ⟨g0,rfl⟩;refine zb9 ?_;have:=(zkm l 60).1 (by have:=hb.2;omega);refine br (λ_=>?_) (λ_=>by have:=hb.2;omega);refine (zmD hp 2 l h (e.trans g0) hb.1 oo oo).mono ?_;rintro _ _ ⟨g1,rfl⟩;exact ⟨g0.t g1,rfl⟩
def zmE {p:DProg} (h:Is W v p) (e:Ext W w) (hn:p.procs.length<=1000):CALL tp 159 [v] w λr w'=>Ext w w'/\Own w.heap.size w' r (p.procs.map DProc.name):=by
 refine co (g:=kf [] [(3,4194264,[3,4])] []) Tryz.func159 ?_;refine zbp h e λw1 g1 hA=>?_;have:=g1.size;refine zaD (α:=ByteArray) u24 ty9 λv5 w2 g2 r5=>?_;have:=g2.size
 refine zap p.procs.length (λk us w'=>∃ v hi,us=[v,.int .i64 (k:Int)]/\k<=p.procs.length/\Ext w1 w'/\RowI w2.heap.size hi 9 w' v ((p.procs.take k).map DProc.name)/\hi<=w'.heap.size/\w2.heap.size<=hi) 0 (z0 _)
   ⟨.slice (some v5) 0 0,w2.heap.size,rfl,z0 _,g2,r5,lr _,qaz _⟩ ?_
 rintro k m _ w3 _ ⟨_,hi,hu,_,C,r3,_,_⟩;obtain ⟨g4,g5⟩:=zcZ hu;rw [g4,g5];refine zaa zex<|zab zqB (zcw hA) C λ_ h8=>zae u68 h8<|zaf<|br (λ_=>?_) (λ_=>?_)
 . have hk:k<p.procs.length:=oo;refine zaa zex<|zab zqB (zcw hA) C λ_ g9=>zad u68 zl1 g9 hk λ_ _ g0=>zaa zpn<|zar ty9 (zhV g0) C λhS=>?_;have:=C.size;refine zbM (α:=ByteArray) (lo2:=w3.heap.size) (hi2:=w3.heap.size) u24 ty9 z9 zc9 qd r3 oo (zlm hS) oo oo (by rw [zaj,qaD,qaj];omega) (by rw [qaD,qaj];omega) λgb w4 g3 r4=>?_;have:=g3.size;refine zau<|⟨m-1,oo,k+1,oo,gb,w4.heap.size,rfl,oo,Ext.chgI C g3 oo,?_,lr _,oo⟩;rw [tk hk,qbx];exact r4
 refine ⟨g1.t C,?_⟩;rw [qaf oo] at r3;exact r3.own.own.mono oo
def zjC {l:List ByteArray} {s:ByteArray} (h:Is W vk l) (e:Ext W w) (hm:s∈l):CALL tp 265 [vo,vk,.string s] w λr w'=>Ext w w'/\r=vo:=by
 refine co (g:=kf [] [] []) Tryz.func265 ?_;refine (zl9 h e).mono ?_;rintro _ _ ⟨g0,rfl⟩;exact br (λ_=>⟨g0,rfl⟩) (λhn=>absurd hm hn)
def zFM (p:DProg) (c:Scp) (n:Nat) (l:List DStmt):Prop:=∀ {w W W':wD} {v vp vo:vL},Is W vp p->Ext W w->Is W' v l->Ext W' w->(∀ x∈l,StR c n x) ->
 CALL tp 222 [vp,v,vo] w λr w'=>Ext w w'/\r=vo
def zhy {p:DProg} {c:Scp} {l:List DStmt} (hg:p.globals=c.gl) (hl:p.locks=c.lk) (gO:∀ x∈c.pr,x∈p.procs.map DProc.name) (gM:p.procs.length<=1000) (ih:∀ m l,m+1=n->zFM p c m l):zFM p c n l:=by
 intro w W W' v vp vo hP eP h e hs;have:=zak h;refine co (g:=kf [(14,562949951324164,[2]),(20,604462909244364633933316,[2])] [(2,618970019642690137449561988,[2,7]),(17,604426016319167168250884,[2,10])] [(13,[0,1,3,4,2,5,6],4),(19,[0,1,2,3,4,5,6,7,8],0)]) Tryz.func222 ?_;refine zbp hP eP λw0 g5 V=>zap l.length (λk us w'=>us=[vo,.int .i64 (k:Int)]/\Ext w0 w'/\k<=l.length) 0 (z0 _) ⟨rfl,xrf _,qbP _⟩ ?_;rintro k m u w1 gz ⟨hu,Z,_⟩;obtain ⟨g0,g1⟩:=zcZ hu;clear hu;rw [g0,g1];refine zae zf9 h<|zaf<|br (λgc=>?_) (λgq=>⟨g5.t Z,rfl⟩);have hk:k<l.length:=oo;obtain ⟨x,hx⟩:∃ x,x=l[k]:=⟨_,rfl⟩;have g9:StR c n x:=by rw [hx];exact hs _ (qac hk)
 have gC:(x.kind=1->x.name∈c.gl)/\(x.kind=6\/x.kind=7->x.name∈c.lk)/\(x.kind=4\/x.kind=5->x.name∈c.pr)/\(x.kind=1\/x.kind=2\/x.kind=3->TmR c.gl x.term):=by
   have h0:St0 c x->(x.kind=1->x.name∈c.gl)/\(x.kind=6\/x.kind=7->x.name∈c.lk)/\(x.kind=4\/x.kind=5->x.name∈c.pr)/\(x.kind=1\/x.kind=2\/x.kind=3->TmR c.gl x.term):=λq=>by
     rcases q with q | q | q | q
     . exact ⟨λ_=>q.2.1,λ_=>by have:=q.1;omega,λ_=>by have:=q.1;omega,λ_=>q.2.2.1⟩
     . exact ⟨λ_=>by have:=q.1;omega,λ_=>by have:=q.1;omega,λ_=>q.2.1,λ_=>by have:=q.1;omega⟩
     . exact ⟨λ_=>by have:=q.1;omega,λ_=>q.2.1,λ_=>by have:=q.1;omega,λ_=>by have:=q.1;omega⟩
     exact ⟨λ_=>by have:=q.1;omega,λ_=>by have:=q.1;omega,λ_=>by have:=q.1;omega,λ_=>by have:=q.1;omega⟩
   cases n with
   | zero=>exact h0 g9.zero
   | succ n=>
     rcases g9.succ with q | ⟨h1,h2,h3,_,_⟩
     . exact h0 q
     exact ⟨λ_=>oo,λ_=>oo,λ_=>oo,λ_=>h3⟩
 obtain ⟨gD,gE,gF,gG⟩:=gC;refine zad zf9 zb6 h hk λ_ _ g2=>?_;rw [<-hx] at g2;have gr:=e.trans (g5.t Z);refine zab zb6 g2 gr λ_ gH=>zcP zv6 rfl zb6 rfl gH gr λw2 gI O _=>?_;have r:=Z.t gI;refine JOIN.mk (λus w'=>us=[vo]/\Ext w2 w') ?_ ?_
 . refine zaa zfd ?_;refine zac ty3 (zdb O) (xrf _) λhI=>zai<|br (λh1=>?_) (λh1=>?_)
   . refine zaa zn6 ?_;refine zab zdt (zgp V) r λgJ gd=>zaa zdh<|zar ty9 (zbV O) (xrf _) λhS=>?_;refine (zjC gd r (by rw [hg];exact gD h1)).mono ?_;rintro _ w3 ⟨U,rfl⟩;exact ⟨rfl,U⟩
   refine zai<|zuL (Q:=x.kind=6\/x.kind=7) .inl (λhQ=>?_) (λgb _=>?_)
   . refine zaa zn7 ?_;refine zab zdt (zhW V) r λgJ gd=>zaa zdh<|zar ty9 (zbV O) (xrf _) λhS=>?_;refine (zjC gd r (by rw [hl];exact gE hQ)).mono ?_;rintro _ w3 ⟨U,rfl⟩;exact ⟨rfl,U⟩
   refine zai<|br (λh7=>gb (.inr h7)) (λh7=>?_);refine zai<|zuL (Q:=x.kind=4\/x.kind=5) .inl (λhQ=>?_) (λgf h4=>?_)
   . have U:=zag w2;refine zab zlY V (r.t U) λ_ gK=>zaa zdh<|zar ty9 (zbV O) U λhS=>?_;refine (zmE gK (r.t U) gM).mono ?_;rintro _ _ ⟨gs,gN⟩;refine ⟨gs,?_⟩;refine (zjC gN.is (xrf _) (gO _ (gF hQ))).mono ?_;rintro _ _ ⟨gP,rfl⟩;exact ⟨rfl,U.t (gs.t gP)⟩
   refine zai<|br (λh5=>gf (.inr h5)) λh5=>⟨rfl,xrf _⟩
 rintro _ w6 ⟨hu,X⟩;try replace hu:=zbv hu
 rw [hu];refine JOIN.mk (λus w'=>us=[vo]/\Ext w6 w') ?_ ?_
 . refine zaa zfd ?_;refine zac ty3 (zdb O) X λhI=>zai<|zuL (Q:=x.kind=1\/x.kind=2\/x.kind=3) .inl (λhQ=>?_) (λgb h1=>?_)
   . have hT:=gG hQ;refine zaa zhn<|zab zbl (zdZ O) X λ_ gQ=>?_;refine (zeW gQ X).mono ?_;rintro _ w7 ⟨gt,gx⟩;have:=ztc x.term;refine zap (zb4 x.term).length (λq us w'=>us=[vo,.int .i64 (q:Int)]/\Ext w7 w'/\q<=(zb4 x.term).length) 0 (z0 _) ⟨rfl,xrf _,qbP _⟩ ?_;rintro q mq _ w8 _ ⟨hu,gy,_⟩;obtain ⟨g0,g1⟩:=zcZ hu;clear hu;rw [g0,g1];refine zae u24 gx<|zaf<|br (λgc=>?_) (λgq=>⟨rfl,gt.t gy⟩);have hq:q<(zb4 x.term).length:=oo;have gR:=zag w8;have Y:=gy.t gR;have g3:=r.t (X.t (gt.t Y));refine zaa zn6<|zab zdt (zgp V) g3 λ_ gS=>zad u24 ty9 gx hq λ_ _ gg=>zar ty9 gg Y λhS=>?_;refine (zjC gS g3 (by rw [hg];exact hT.2.1 _ (qac hq))).mono ?_;rintro _ _ ⟨gh,rfl⟩;refine zau<|⟨mq-1,oo,q+1,oo,rfl,Y.t gh,oo⟩
   refine zaa zfd<|zac ty3 (zdb O) X λhI=>zai<|br (λh2=>gb (.inr (.inl h2))) (λh2=>?_);refine zaa zfd<|zac ty3 (zdb O) X λhI=>zai<|br (λh3=>gb (.inr (.inr h3))) (λh3=>⟨rfl,xrf _⟩)
 rintro _ _ ⟨hu,gi⟩;try replace hu:=zbv hu
 rw [hu];have C:=X.t gi;have D:=r.t C
 have gj:∃ q,(∀ y∈x.body,StR c q y)/\(∀ y∈x.els,StR c q y)/\(q+1=n\/(x.body=[]/\x.els=[])):=by
   have h0:St0 c x->x.body=[]/\x.els=[]:=λh=>by rcases h with q | q | q | q<;>exact ⟨q.2.2.2.1,q.2.2.2.2⟩
   cases n with
   | zero=>
     obtain ⟨h1,h2⟩:=h0 g9.zero;exact ⟨0,by rw [h1];simp,by rw [h2];simp,.inr ⟨h1,h2⟩⟩
   | succ n=>
     rcases g9.succ with q | ⟨_,_,_,h4,h5⟩
     . obtain ⟨h1,h2⟩:=h0 q;exact ⟨0,by rw [h1];simp,by rw [h2];simp,.inr ⟨h1,h2⟩⟩
     exact ⟨n,h4,h5,.inl rfl⟩
 obtain ⟨q,hb,he,hq⟩:=gj
 have g4:zFM p c q []:=by
   intro w W W' v vp vo hP eP h e hs;refine co (g:=kf [(14,562949951324164,[2]),(20,604462909244364633933316,[2])] [(2,618970019642690137449561988,[2,7]),(17,604426016319167168250884,[2,10])] [(13,[0,1,3,4,2,5,6],4),(19,[0,1,2,3,4,5,6,7,8],0)]) Tryz.func222 ?_;refine zbp hP eP λw0 g5 V=>zap 0 (λk us w'=>us=[vo,.int .i64 (k:Int)]/\Ext w0 w') 0 (z0 _) ⟨rfl,xrf _⟩ ?_;rintro k m u w1 gz ⟨hu,Z⟩;obtain ⟨g0,g1⟩:=zcZ hu;rw [g0,g1];refine zae zf9 h<|zaf<|br (λgc=>by simp at gc;omega) (λgq=>⟨g5.t Z,rfl⟩)
 have gU:zFM p c q x.body:=by
   rcases hq with hq | ⟨h1,_⟩
   . exact ih q _ hq
   rw [h1];exact g4
 have gV:zFM p c q x.els:=by
   rcases hq with hq | ⟨_,h1⟩
   . exact ih q _ hq
   rw [h1];exact g4
 refine zab zlY V D λ_ gW=>zaa zfe<|zab zd6 (zdF O) C λ_ gX=>?_;refine (gU gW D gX C hb).mono ?_;rintro _ _ ⟨I,rfl⟩;refine zab zlY V (D.t I) λ_ gY=>zaa zeg<|zab zd6 (zdc O) (C.t I) λ_ gZ=>?_;refine (gV gY (D.t I) gZ (C.t I) he).mono ?_;rintro _ _ ⟨gp,rfl⟩;refine zau<|⟨m-1,oo,k+1,oo,rfl,D.t (I.t gp),oo⟩
theorem zjD {p:DProg} {c:Scp} (hg:p.globals=c.gl) (hl:p.locks=c.lk) (g0:∀ x∈c.pr,x∈p.procs.map DProc.name) (g1:p.procs.length<=1000):∀ (n:Nat) (l:List DStmt),zFM p c n l
 | 0,l=>zhy (n:=0) (l:=l) hg hl g0 g1 (λm l h=>absurd h oo)
 | n + 1, l => zhy (n := n + 1) (l := l) hg hl g0 g1 λm l h => by
     obtain rfl:m=n:=oo;exact zjD hg hl g0 g1 m l
def ProgR.facts {p:DProg} (hp:ProgR p):p.procs.length<=4/\(∀ x∈p.procs.map DProc.name,zbD x=true)/\(p.procs.map DProc.name).Nodup/\zip∈p.procs.map DProc.name:=by
 obtain ⟨k,hk,hn⟩:=hp.n;obtain ⟨n1,n2,n3,n4⟩:=zrw k hk;rw [<-hn] at n1 n2 n3 n4;rw [qaD] at n1;exact ⟨n1,λx hx=>qaM.1 n2 x hx,n3,n4⟩
def ProgR.gn {p:DProg} (hp:ProgR p):∀ x∈p.globals,zbD x=true:=by
 intro x hx;rcases hp.g with e | e<;>rw [e] at hx
 . exact zpH hx
 exact zpH (qbh hx)
def ProgR.ln {p:DProg} (hp:ProgR p):∀ x∈p.locks,zbD x=true:=by
 intro x hx;rcases hp.l with e | e | e<;>rw [e] at hx
 . exact zpI hx
 . exact zpI (qbh hx)
 exact zpI (qbh hx)
def zrx {p:DProg} (h:Is W v p) (e:Ext W w) (hp:ProgR p):CALL tp 158 [v] w λr w'=>Ext w w'/\r=.bool true:=by
 obtain ⟨_,f2,_,_⟩:=hp.facts;refine co (g:=kf [] [(4,35184371040268,[3])] []) Tryz.func158 ?_;refine zbp h e λw1 g9 hA=>zaa zn6<|zab zdt (zgp hA) (xrf _) λ_ h5=>?_;refine (zfH h5 (xrf _)).mono ?_;rintro _ _ ⟨g3,rfl⟩;refine za2<|zbX (λhc=>by rcases hp.g with e | e<;>(rw [e] at hc;exact absurd hc qd)) (λ_=>?_);refine zaa zn7<|zab zdt (zhW hA) g3 λ_ gb=>?_;refine (zfH gb g3).mono ?_;rintro _ _ ⟨gc,rfl⟩;refine za2<|zbX (λhc=>by rcases hp.l with e | e | e<;>(rw [e] at hc;exact absurd hc qd)) (λ_=>?_);have g0:=g3.t gc;refine zaa zex<|zab zqB (zcw hA) g0 λ_ gd=>zae u68 gd<|zcO<|br (λhc=>oo) (λ_=>?_);refine zap p.procs.length (λk us w'=>us=[.int .i64 (k:Int)]/\Ext w1 w'/\k<=p.procs.length) 0 (z0 _) ⟨rfl,g0,qbP _⟩ ?_;rintro k m _ w4 _ ⟨hu,C,_⟩;try replace hu:=zbv hu
 rw [hu];refine zaa zex<|zab zqB (zcw hA) C λ_ gf=>zae u68 gf<|zaf<|br (λ_=>?_) (λ_=>⟨g9.t C,rfl⟩);have hk:k<p.procs.length:=oo;have g1:p.procs[k]∈p.procs:=qac hk;refine zaa zex<|zab zqB (zcw hA) C λ_ gg=>zad u68 zl1 gg hk λ_ _ g4=>zaa zpn<|zar ty9 (zhV g4) C λ_=>?_;refine (specIsName_ok (w:=w4)).mono ?_;rintro _ _ ⟨g2,rfl⟩;refine za2<|zbX (λhc=>by rw [f2 _ (qa3.2 ⟨_,g1,rfl⟩)] at hc;cases hc) (λ_=>?_);refine zaa zex<|zab zqB (zcw hA) (C.t g2) λ_ gh=>zad u68 zl1 gh hk λ_ _ g5=>zaa zpo<|zab zd6 (zke g5) (C.t g2) λ_ gi=>?_;refine (zBu ⟨hp.gn,hp.ln,λx hx=>f2 x (qbO hx)⟩ gi (C.t g2) (hp.b _ g1)).mono ?_;rintro _ _ ⟨gj,rfl⟩;refine za2<|zbX (λhc=>by cases hc) (λ_=>?_);refine zau<|⟨m-1,oo,k+1,oo,rfl,C.t (g2.t gj),oo⟩
def zry {p:DProg} (h:Is W v p) (e:Ext W w) (hp:ProgR p):CALL tp 160 [v] w λr w'=>Ext w w'/\Is w' r ([]:List ByteArray):=by
 obtain ⟨_,_,_,_⟩:=hp.facts;refine co (g:=kf [] [(3,67108824,[3,4])] [(5,[0,1,2,3,4,5,6,7,8,9],0)]) Tryz.func160 ?_;refine zbp h e λ_ g5 hA=>zaD (α:=ByteArray) u24 ty9 λv5 w2 g9 r5=>zap p.procs.length (λk us w'=>us=[.slice (some v5) 0 0,.int .i64 (k:Int)]/\Ext w2 w'/\k<=p.procs.length) 0 (z0 _) ⟨rfl,xrf _,qbP _⟩ ?_;rintro k m _ _ _ ⟨hu,g0,_⟩;obtain ⟨gb,gc⟩:=zcZ hu;rw [gb,gc];have D:=g9.t g0;refine zab zlY hA D λ_ h6=>?_;refine (zrx h6 D hp).mono ?_;rintro _ w4 ⟨g1,rfl⟩;have I:=D.t g1;refine zbX (λ_=>?_) (λhc=>by cases hc);refine zaa zex<|zab zqB (zcw hA) I λ_ gd=>zae u68 gd<|zaf<|br (λ_=>?_) (λ_=>⟨g5.t I,r5.is.ext (g0.t g1)⟩);have hk:k<p.procs.length:=oo;have g2:p.procs[k]∈p.procs:=qac hk;have g4:=zag w4;have C:=I.t g4;refine zab zlY hA C λ_ gf=>zaa zex<|zab zqB (zcw hA) C λ_ gg=>zad u68 zl1 gg hk λ_ _ g3=>zaa zpo<|zab zd6 (zke g3) C λ_ gh=>?_;refine (zjD rfl rfl (λ_ hx=>qbO hx) oo 2 _ gf C gh C (hp.b _ g2).1).mono ?_;rintro _ _ ⟨gi,rfl⟩;refine zau<|⟨m-1,oo,k+1,oo,rfl,g0.t (g1.t (g4.t gi)),oo⟩
def zmF {p:DProg} {s:ByteArray}  (h0:Is W0 v0 p) (e0:Ext W0 w)  :
   CALL tp 161 [v0,.string s] w λr w'=>Ext w w'/\(r=.int .i64 (plc s (p.procs.map DProc.name))):=by
 refine co (g:=kf [] [(2,4194288,[5])] []) Tryz.func161 ?_;refine zax zlY rfl h0 e0 λg0 y1 g1 _=>zap (p.procs.length) (λk us w'=>us=[.int .i64 (k:Int)]/\Ext g0 w'/\(s∉(p.procs.map DProc.name).take k)) (0) oo ⟨sS,xrf g0,sS⟩ ?_;rintro k m2 _ _ _ ⟨hu,y2,C⟩;try replace hu:=zbv hu
 try rw [hu]
 try clear hu
 refine zaa zex<|zab zqB (zcw g1) y2 λ_ h8=>?_;have:=zak h8;refine zae u68 h8<|zaf<|br (λc1=>?_) (λc1=>?_)
 . refine zaa zex ?_;refine zab zqB (zcw g1) y2 λ_ g2=>zad u68 zl1 g2 oo λ_ _ g3=>zaa zpn<|zar ty9 (zhV g3) y2 λ_=>zaQ<|br (λc2=>?_) (λc2=>?_)
   . refine ⟨(y1.t y2),?_⟩;rw [zoe (k:=k) (by rw [qaD];omega) C (by rw [qbZ];assumption)]
   refine zau<|⟨m2-1,oo,k+1,oo,sS,y2,?_⟩;refine zdd (by rw [qaD];omega) C ?_;rw [qbZ];assumption
 refine ⟨(y1.t y2),?_⟩;rw [zlr (by rw [qaf (by rw [qaD];omega)] at C;exact C)]
def zrz {p:DProg} (h:Is W v p) (e:Ext W w) (hp:ProgR p):CALL tp 97 [v] w λr w'=>Ext w w'/\r=.int .i64 0:=by
 obtain ⟨_,_,f3,f4⟩:=hp.facts;refine co (g:=kf [] [] []) Tryz.func97 ?_;refine zbp h e λ_ g1 hA=>zab zlY hA (xrf _) λ_ h4=>?_;refine (zrx h4 (xrf _) hp).mono ?_;rintro _ _ ⟨g0,rfl⟩;refine za2<|zbX (λhc=>by cases hc) (λ_=>?_);refine zaa zn6<|zab zdt (zgp hA) g0 λ_ h9=>?_;refine (zeH h9 g0).mono ?_;rintro _ _ ⟨g2,rfl⟩;have C:=g0.t g2;refine br (λhc=>by rcases hp.g with e | e<;>(rw [e] at hc;exact absurd qd hc)) (λ_=>?_);refine zaa zn7<|zab zdt (zhW hA) C λ_ g3=>?_;refine (zeH g3 C).mono ?_;rintro _ _ ⟨g4,rfl⟩;have D:=C.t g4;refine br (λhc=>by rcases hp.l with e | e | e<;>(rw [e] at hc;exact absurd qd hc)) (λ_=>?_);refine zab zlY hA D λ_ g5=>?_;refine (zmE g5 D oo).mono ?_;rintro _ _ ⟨g9,gb⟩;refine (zeH gb.is (xrf _)).mono ?_;rintro _ _ ⟨gc,rfl⟩;have I:=D.t (g9.t gc);refine br (λhc=>absurd f3 hc) (λ_=>?_);refine zab zlY hA I λ_ gd=>?_;refine (zry gd I hp).mono ?_;rintro _ _ ⟨gf,gg⟩;have O:=I.t gf;refine zae u24 gg<|zcO<|br (λhc=>by simp at hc) (λ_=>?_);refine zab zlY hA O λ_ gh=>?_;refine (zmF gh O).mono ?_;rintro _ _ ⟨gi,rfl⟩;refine zaf ?_;have hm:=zgb.2 f4;refine br (λhc=>by unfold zip at hm;omega) (λ_=>?_);exact ⟨g1.t (O.t gi),rfl⟩
end Go.Proofs.YtkgiigmcbgifdaaGreat
