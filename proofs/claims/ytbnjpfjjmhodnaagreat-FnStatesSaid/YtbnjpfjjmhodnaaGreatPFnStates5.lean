/-
  Parts of the proof, put together by program.
-/
import Derived.Test.YtbnjpfjjmhodnaaGreatPFnStates4
set_option linter.unusedVariables false
set_option linter.unusedSimpArgs false
set_option linter.unusedSectionVars false
namespace Go.Sh
open Rep (rep)
instance:RepZ Raw:=⟨⟨.slice none 0 0⟩,[.slice none 0 0],fun _=>⟨rfl,rfl,rfl⟩⟩
abbrev RIns:=RV DIns 77
structure DEm where
 a:Raw
 b:Raw
 c:Raw
 ins:RIns
theorem DEm.ext_iff {x y:DEm}:x=y↔(x.a=y.a∧x.b=y.b∧x.c=y.c∧x.ins=y.ins):=⟨fun h=>by rw [h];exact ⟨rfl,rfl,rfl,rfl⟩,fun h=>by obtain ⟨h0,h1,h2,h3⟩:=h;cases x;cases y;simp only at h0 h1 h2 h3;simp only [h0,h1,h2,h3]⟩
instance:Rep DEm:=Rep.via fun x=>(x.a,x.b,x.c,x.ins)
theorem zji {w:World} {b o:Nat} {x:DEm} (h:At w b o x):At w b (o+3) x.ins:=zaO (α:=Raw) (β:=RIns) (p:=(x.c,x.ins)) (zaO (α:=Raw) (β:=Raw×RIns) (p:=(x.b,x.c,x.ins)) (zaO (α:=Raw) (β:=Raw×Raw×RIns) (p:=(x.a,x.b,x.c,x.ins)) h))
instance:RepZ DEm:=⟨⟨(RepZ.zv:Raw),(RepZ.zv:Raw),(RepZ.zv:Raw),(RepZ.zv:RIns)⟩,RepZ.zc (Raw×Raw×Raw×RIns),fun w=>RepZ.zr (α:=Raw×Raw×Raw×RIns) w⟩
theorem zmK {γ:Type} {H:List Nat→World→γ→Prop} {F:List Nat} {w:World} {b o:Nat} {G:List Nat} {x:DEm} {upd:DEm→γ} (h:Lens H F w b o G x upd) :
   ∃ G1,Lens H F w b (o+0) G1 x.a (fun y=>upd ⟨y,x.b,x.c,x.ins⟩):=by
 have h':Lens H F w b o G (x.a,x.b,x.c,x.ins) (fun p:Raw×Raw×Raw×RIns=>upd ⟨p.1,p.2.1,p.2.2.1,p.2.2.2⟩):=⟨h.here,h.sub,fun w' G' y' hc hO hs=>h.back w' G' _ hc hO hs⟩
 obtain ⟨G0,h'⟩:=h'.fst
 exact ⟨_,h'⟩
theorem zmL {γ:Type} {H:List Nat→World→γ→Prop} {F:List Nat} {w:World} {b o:Nat} {G:List Nat} {x:DEm} {upd:DEm→γ} (h:Lens H F w b o G x upd) :
   ∃ G1,Lens H F w b (o+1) G1 x.b (fun y=>upd ⟨x.a,y,x.c,x.ins⟩):=by
 have h':Lens H F w b o G (x.a,x.b,x.c,x.ins) (fun p:Raw×Raw×Raw×RIns=>upd ⟨p.1,p.2.1,p.2.2.1,p.2.2.2⟩):=⟨h.here,h.sub,fun w' G' y' hc hO hs=>h.back w' G' _ hc hO hs⟩
 obtain ⟨G0,h'⟩:=h'.snd
 obtain ⟨G1,h'⟩:=h'.fst
 exact ⟨_,h'⟩
theorem zgy {γ:Type} {H:List Nat→World→γ→Prop} {F:List Nat} {w:World} {b o:Nat} {G:List Nat} {x:DEm} {upd:DEm→γ} (h:Lens H F w b o G x upd) :
   ∃ G1,Lens H F w b (o+3) G1 x.ins (fun y=>upd ⟨x.a,x.b,x.c,y⟩):=by
 have h':Lens H F w b o G (x.a,x.b,x.c,x.ins) (fun p:Raw×Raw×Raw×RIns=>upd ⟨p.1,p.2.1,p.2.2.1,p.2.2.2⟩):=⟨h.here,h.sub,fun w' G' y' hc hO hs=>h.back w' G' _ hc hO hs⟩
 obtain ⟨G0,h'⟩:=h'.snd
 obtain ⟨G1,h'⟩:=h'.snd
 obtain ⟨G2,h'⟩:=h'.snd
 exact ⟨_,h'⟩
section
variable {P:Program} {w w':World} {lo hi:Nat}
theorem zfV {op arg to:Int} {t0 t1 t2 t3:Value} {t:DTerm} (h0:I64 op) (h1:I64 arg) (h2:I64 to) (ht:OwnI lo hi w (.agg #[t0,t1,t2,t3]) t):OwnI lo hi w (.agg #[.int .i64 op,.int .i64 arg,t0,t1,t2,t3,.int .i64 to]) (⟨op,arg,t,to⟩:DIns):=by
 obtain ⟨F,⟨⟨cs,hr,hv⟩,hnd,hw⟩,hF⟩:=ht
 have hcs:cs=[t0,t1,t2,t3]:=by
   simp only [mkv,Rep.agg,cond_true,Value.agg.injEq] at hv
   have:=congrArg Array.toList hv
   simpa using this.symm
 subst hcs
 refine ⟨F,⟨⟨[.int .i64 op,.int .i64 arg,t0,t1,t2,t3,.int .i64 to],?_,rfl⟩,hnd,hw⟩,hF⟩
 have:=zav (F:=[]) (c1:=[.int .i64 op]) (show rep [] w [.int .i64 op] op from ⟨rfl,rfl,h0⟩) (zav (F:=[]) (c1:=[.int .i64 arg]) (show rep [] w [.int .i64 arg] arg from ⟨rfl,rfl,h1⟩) (zav hr (show rep [] w [.int .i64 to] to from ⟨rfl,rfl,h2⟩)))
 simp only [List.nil_append,List.append_nil] at this
 exact this
theorem zp9 {X:Nat→Prop} {t g:Nat} {v:Value} {K:Value→Prop} (h:Var P t w g v) (hX:¬X g) (k:K v):RDX P X (Instr.loadAt t (.pointer (some ⟨g,0,none⟩))) w K:=by
 refine ⟨v,fun w' hx=>?_,k⟩
 obtain ⟨u,h1,h2⟩:=zaB (P:=P) (K:=fun u=>u=v) (h.keep (hx.block g h.lt hX)) (Ext.refl w') rfl
 subst h2
 exact h1 w' (Ext.refl w')
theorem zlj {α β:Type} [Rep α] [Rep β] {e b o g:Nat} {F G:List Nat} {t by_:Nat} {x:RV β e} {upd:RV β e→α} {w2:World} {v':Value} {l':List β} {G':List Nat} {K:World→Prop} (ht:tyI P t=some (1,by_,false)) (hL:Lens (VH g) (g :: F) w b o G x upd) (hlt:∀ c∈g :: F,c<w.heap.size) (hc:Chg G w w2)
   (hR:RowG G' e w2 v' l') (hN:G'.Nodup) (hs:∀ c∈G',c∈G∨c∉g :: F)
   (k:∀ w3,Chg (b :: G) w w3→(∃ F',OAt F' w3 g 0 (upd ⟨v',l'⟩)∧∀ c∈F',c∈g :: F∨c∈G')→K w3):OPU P (Instr.storeAt t (.pointer (some ⟨b,o,none⟩)) v') w2 K:=by
 obtain ⟨cs,⟨rfl,hrow⟩,hr,hn,hw,hb,hwb⟩:=hL.here
 have hbl:b<w.heap.size:=hlt b (hL.sub b (by simp))
 have hbk:w2.heap[b]?=w.heap[b]?:=hc.block b hbl hb
 have hwb2:∃ c e,w2.heap[b]?=some (.cells c e (0,0)):=by obtain ⟨c,e,h⟩:=hwb;exact ⟨c,e,by rw [hbk];exact h⟩
 have hbG':b∉G':=fun hm=>by
   rcases hs b hm with h | h
   · exact hb h
   exact h (hL.sub b (by simp))
 refine zg8 ht hwb2 (zaN hr hbk) hrow.one hR.one fun w3 hc3 hr3=>?_
 have hcat:ChgAt b o 1 G w w3:=by
   refine ⟨(hc.mono (by simp +contextual)).trans (hc3.chg.mono (by simp +contextual)),fun c e hcc=>?_⟩
   obtain ⟨c',h1,h2⟩:=hc3.cell c e (by rw [hbk];exact hcc)
   exact ⟨c',h1,h2⟩
 have hkeep:∀ c∈G',w3.heap[c]?=w2.heap[c]?:=fun c hcm=>hc3.chg.block c (hR.lt c hcm) (by simp;exact fun e=>hbG' (e▸hcm))
 obtain ⟨c',e',hc'⟩:=hwb2
 obtain ⟨c'',hc'',_⟩:=hc3.cell c' e' hc'
 obtain ⟨F',h1,h2⟩:=hL.back w3 G' ⟨v',l'⟩ hcat ⟨[v'],⟨rfl,hR.keep hkeep⟩,hr3,hN,(hR.keep hkeep).wr,hbG',c'',e',hc''⟩ hs
 exact k w3 hcat.chg ⟨F',h1,h2⟩
end
end Go.Sh
namespace Go.Proofs.YtbnjpfjjmhodnaaGreat
open Go Go.Sh Go.Proofs
open Rep (rep)
def F160 (a0 a1:Value) (w:World) (R:VW):Prop:=
 oP (Instr.box 77 a1) w fun x3 w=>
 (fun w=>XR fun X=>NIL a0 <|
 RDX tp X (Instr.fieldAt 169 a0 1) w fun x8=>
 RDX tp X (Instr.loadAt 26 x8) w fun x9=>
 RDX tp X (Instr.loadAt 77 x3) w fun x10=>
 (fun w_=>oP (Instr.buildSlice 26 1 #[(0,x10)]) w_ fun x11 w=>
 ExtX X w_ w ∧
 ((fun w_=>oP (Builtin.append_ #[26,26] 26 [x9,x11].toArray) w_ fun x12 w=>
 ExtX X w_ w ∧
 (NIL a0 <|
 RDX tp X (Instr.fieldAt 169 a0 1) w fun x14=>
 oS 26 x14 x12 w fun w=>
 NIL a0 <|
 rF 169 a0 1 w fun x17=>
 rL 26 x17 w fun x18=>
 rN 26 3 x18 w fun x19=>
 rB .sub 3 T0 U0 x19 (iV 1) w fun x20=>
 R x20 w)) w)) w) (World.drew1 w)
def cfg160:Cfg:={ ext:=extL,joins:=[],loops:=[],draws:=[(1,[0,1,2,3,4,5,6,7,8,9,10],192)],pars:=[],xs:=[1] }
theorem F160_call {a0 a1:Value} {w:World} {R:VW} (h:F160 a0 a1 w R):cL 160 [a0,a1] w R:=co (g:=cfg160) Tryz.func160 (by kernel_rfl) (by kernel_rfl) (by kernel_rfl) h
section
variable {w:World} {lo hi:Nat} {K:Value→Prop}
theorem zlk {a b:Int} {u:Value} {t:DTerm} (ha:I64 a) (hb:I64 b) (hu:OwnI lo hi w u t) (k:∀ v,OwnI lo hi w v (⟨a,b,t,0⟩:DIns)→K v):RD Tryz.prog (Instr.build 77 #[(0,.int .i64 a),(1,.int .i64 b),(2,u)]) w K:=by
 obtain ⟨p,q,rfl⟩:=zeW hu.is
 exact zaR (cells:=#[.int .i64 a,.int .i64 b,.int .i64 t.kind,.int .i64 t.num,.string t.name,.slice p t.kids.length q,.int .i64 0]) (by kernel_rfl) (k _ (zfV ha hb zhD hu))
theorem ziu {a:Int} {u:Value} {t:DTerm} (ha:I64 a) (hu:OwnI lo hi w u t) (k:∀ v,OwnI lo hi w v (⟨a,0,t,0⟩:DIns)→K v):RD Tryz.prog (Instr.build 77 #[(0,.int .i64 a),(2,u)]) w K:=by
 obtain ⟨p,q,rfl⟩:=zeW hu.is
 exact zaR (cells:=#[.int .i64 a,.int .i64 0,.int .i64 t.kind,.int .i64 t.num,.string t.name,.slice p t.kids.length q,.int .i64 0]) (by kernel_rfl) (k _ (zfV ha zhD zhD hu))
theorem ze3 {a b:Int} (ha:I64 a) (hb:I64 b) (k:∀ v,OwnI lo hi w v (⟨a,b,term0,0⟩:DIns)→K v):RD Tryz.prog (Instr.build 77 #[(0,.int .i64 a),(1,.int .i64 b)]) w K:=
 zaR (cells:=#[.int .i64 a,.int .i64 b,.int .i64 0,.int .i64 0,.string nO,.slice none 0 0,.int .i64 0]) (by kernel_rfl) (k _ (zfV ha hb zhD zea))
theorem zmM {a b:Int} (ha:I64 a) (hb:I64 b) (k:∀ v,OwnI lo hi w v (⟨a,0,term0,b⟩:DIns)→K v):RD Tryz.prog (Instr.build 77 #[(0,.int .i64 a),(3,.int .i64 b)]) w K:=
 zaR (cells:=#[.int .i64 a,.int .i64 0,.int .i64 0,.int .i64 0,.string nO,.slice none 0 0,.int .i64 b]) (by kernel_rfl) (k _ (zfV ha zhD hb zea))
theorem zhL {a:Int} (ha:I64 a) (k:∀ v,OwnI lo hi w v (⟨a,0,term0,0⟩:DIns)→K v):RD Tryz.prog (Instr.build 77 #[(0,.int .i64 a)]) w K:=
 zaR (cells:=#[.int .i64 a,.int .i64 0,.int .i64 0,.int .i64 0,.string nO,.slice none 0 0,.int .i64 0]) (by kernel_rfl) (k _ (zfV ha zhD zhD zea))
end
def EmF (W:World) (g:Nat) (p:DProg) (L:List DIns) (F:List Nat) (w:World):Prop:=
 ∃ c0 c1 c2 rv,Is W (.agg #[c0,c1,c2]) p∧OAt F w g 0 (⟨⟨c0⟩,⟨c1⟩,⟨c2⟩,⟨rv,L⟩⟩:DEm)∧Ext W w∧W.heap.size≤g∧∀ c∈F,W.heap.size≤c
section
variable {W w w':World} {g:Nat} {p:DProg} {L:List DIns} {F:List Nat}
theorem EmF.ext (h:EmF W g p L F w) (hx:Ext w w'):EmF W g p L F w':=by
 obtain ⟨c0,c1,c2,rv,h1,h2,h3,h4⟩:=h;exact ⟨c0,c1,c2,rv,h1,h2.ext hx,h3.trans hx,h4⟩
theorem EmF.old (h:EmF W g p L F w):Ext W w:=by obtain ⟨c0,c1,c2,rv,h1,h2,h3,h4⟩:=h;exact h3
theorem EmF.lt (h:EmF W g p L F w):g<w.heap.size∧(∀ c∈F,c<w.heap.size)∧W.heap.size≤g∧g∉F∧∀ c∈F,W.heap.size≤c:=by
 obtain ⟨c0,c1,c2,rv,h1,h2,h3,h4,h5⟩:=h
 have:=h2.lts
 obtain ⟨_,_,_,_,_,h6,_⟩:=h2
 exact ⟨this g (by simp),fun c hc=>this c (by simp [hc]),h4,h6,h5⟩
theorem EmF.keep (h:EmF W g p L F w) (hk:∀ c∈g :: F,w'.heap[c]?=w.heap[c]?) (hx:Ext W w'):EmF W g p L F w':=by
 obtain ⟨c0,c1,c2,rv,h1,h2,h3,h4⟩:=h;exact ⟨c0,c1,c2,rv,h1,h2.keep hk,hx,h4⟩
theorem zfW {c0 c1 c2:Value} (h:Is W (.agg #[c0,c1,c2]) p):Is W c0 p.globals∧Is W c1 p.locks∧Is W c2 p.procs:=by
 obtain ⟨F,cs,hr,hv⟩:=h
 have hcs:cs=[c0,c1,c2]:=by
   simp only [mkv,Rep.agg,cond_true,Value.agg.injEq] at hv
   have:=congrArg Array.toList hv
   simpa using this.symm
 subst hcs
 obtain ⟨F1,F2,x1,x2,rfl,hx,h1,F3,F4,x3,x4,rfl,hx2,h2,h3⟩:=hr
 have e1:∃ a,x1=[a]:=by obtain ⟨a,cap,Fi,xs,rfl,_⟩:=h1;exact ⟨_,rfl⟩
 have e2:∃ a,x3=[a]:=by obtain ⟨a,cap,Fi,xs,rfl,_⟩:=h2;exact ⟨_,rfl⟩
 have e3:∃ a,x4=[a]:=by obtain ⟨a,cap,Fi,xs,rfl,_⟩:=h3;exact ⟨_,rfl⟩
 obtain ⟨a1,rfl⟩:=e1
 obtain ⟨a2,rfl⟩:=e2
 obtain ⟨a3,rfl⟩:=e3
 subst hx2
 simp only [List.cons_append,List.nil_append,List.cons.injEq,and_true] at hx
 obtain ⟨rfl,rfl,rfl⟩:=hx
 exact ⟨⟨F1,_,h1,rfl⟩,⟨F3,_,h2,rfl⟩,⟨F4,_,h3,rfl⟩⟩
theorem zqQ {K:Value→Prop} (h:EmF W g p L F w) (k:∀ v,Is W v p.globals→K v) :
   RD Tryz.prog (Instr.fieldAt 169 (.pointer (some ⟨g,0,none⟩)) 0) w fun x26=>RD Tryz.prog (Instr.fieldAt 112 x26 0) w fun x27=>RD Tryz.prog (Instr.loadAt 24 x27) w fun x28=>K x28:=by
 obtain ⟨c0,c1,c2,rv,h1,h2,h3,h4,h5⟩:=h
 obtain ⟨G1,hL⟩:=zmK (Lens.var h2)
 obtain ⟨cs,⟨_,rfl,_⟩,hr,_⟩:=hL.here
 refine zaa zkZ ?_
 refine zaa zgf ?_
 exact zbI zcJ hr (k _ (zfW h1).1)
theorem zpz {K:Value→Prop} (h:EmF W g p L F w) (k:∀ v,Is W v p.locks→K v) :
   RD Tryz.prog (Instr.fieldAt 169 (.pointer (some ⟨g,0,none⟩)) 0) w fun x26=>RD Tryz.prog (Instr.fieldAt 112 x26 1) w fun x27=>RD Tryz.prog (Instr.loadAt 24 x27) w fun x28=>K x28:=by
 obtain ⟨c0,c1,c2,rv,h1,h2,h3,h4,h5⟩:=h
 obtain ⟨G1,hL⟩:=zmL (Lens.var h2)
 obtain ⟨cs,⟨_,rfl,_⟩,hr,_⟩:=hL.here
 refine zaa zkZ ?_
 refine zaa zhm ?_
 exact zbI zcJ hr (k _ (zfW h1).2.1)
theorem zpA {K:Value→Prop} (h:EmF W g p L F w) (k:∀ v,Is W v p→K v) :
   RD Tryz.prog (Instr.fieldAt 169 (.pointer (some ⟨g,0,none⟩)) 0) w fun x42=>RD Tryz.prog (Instr.loadAt 112 x42) w fun x43=>K x43:=by
 obtain ⟨c0,c1,c2,rv,h1,h2,h3,h4,h5⟩:=h
 refine zaa zkZ ?_
 obtain ⟨F1,cs1,hc1,hr1⟩:=h1
 have hcs:cs1=[c0,c1,c2]:=by
   simp only [mkv,Rep.agg,cond_true,Value.agg.injEq] at hr1
   have:=congrArg Array.toList hr1
   simpa using this.symm
 subst hcs
 obtain ⟨cs,hrr,hrg,_⟩:=h2
 obtain ⟨F2,F3,x1,x2,_,rfl,⟨_,rfl,_⟩,F4,F5,x3,x4,_,rfl,⟨_,rfl,_⟩,F6,F7,x5,x6,_,rfl,⟨_,rfl,_⟩,_⟩:=hrr
 have hr3:w.rangeAt g 0 [c0,c1,c2]:=by
   have:([c0]++([c1]++([c2]++x6)))=[c0,c1,c2]++x6:=rfl
   rw [this] at hrg
   exact (zar hrg).1
 have hat:At w g (0+0) p:=⟨F1,_,zbw hc1 h3,hr3⟩
 have hatB:AtB W w g (0+0) p:=⟨F1,_,hc1,hr3⟩
 exact zdz zeD hatB h3 (Ext.refl w) fun v hv=>k v hv
theorem zfX {lo hi:Nat} {u:Value} {x:DIns} (h:EmF W g p L F w) (hx:OwnI lo hi w u x) (hgl:g<lo) (hFl:∀ c∈F,c<lo) (hlo:lo≤w.heap.size) (hL:L.length≤1000000) :
   CALL Tryz.prog 160 [.pointer (some ⟨g,0,none⟩),u] w fun r w'=>r=.int .i64 (L.length:Int)∧Chg (g :: F) w w'∧∃ F',EmF W g p (L++[x]) F' w'∧∀ c∈F',c∈F∨lo≤c:=by
 obtain ⟨e1,e2,e3,e4,e5⟩:=h.lt
 obtain ⟨GX,hMX,hGX⟩:=hx
 refine F160_call ?_
 unfold F160
 refine zap zga rfl hMX.is (Ext.refl w) fun w1 hx1 hA1 hV1=>?_
 have hs1:=hx1.size
 have hx2:=zah w1
 have hs2:=hx2.size
 have hV2:=hV1.ext hx2
 have hx12:=hx1.trans hx2
 generalize World.drew1 w1=w2 at *
 have hM2:=hMX.ext hx12
 obtain ⟨c0,c1,c2,rv,h1,h2,h3,h4,h5⟩:=h.ext hx12
 obtain ⟨G1,hL1⟩:=zgy (Lens.var h2)
 obtain ⟨cs1,⟨rfl,hrow⟩,hr1,hnG,_,hg1,_⟩:=hL1.here
 have hGF:∀ c∈G1,c∈F:=fun c hc=>by
   rcases List.mem_cons.1 (hL1.sub c (by simp [hc])) with e | h
   · exact absurd (e▸hc) hg1
   exact h
 have hlts:=h2.lts
 refine XR.mk (fun c=>c∈F) ?_
 refine NIL.mk rfl ?_
 refine zcP zfn ?_
 refine zdo zeX hr1 (fun h=>e4 h) ?_
 refine zp9 hV2 (fun h=>by have:=e2 _ h;omega) ?_
 refine zdn (β:=DIns) (G:=G1) u26 zga z77 zrC (by decide) hrow hnG hM2 (fun c hc hc'=>by have:=hGX c hc;have:=hFl c (hGF c hc');omega) (by rw [zak];show L.length+1≤_;omega) (by show (L.length+1)*_≤_;omega) (fun w3 v12 w4 G' hx3 hc4 hR4 hN4 hs4=>?_) fun s' w3 hx3 h=>⟨hx3.toX,h⟩
 have hs3:=hx3.size
 refine ⟨hc4.toX (fun c hc=>hGF c hc),?_⟩
 refine NIL.mk rfl ?_
 refine zcP zfn ?_
 have hc24:Chg G1 w2 w4:=(hx3.chg G1).trans hc4
 refine zlj zeX hL1 hlts hc24 hR4 hN4 (fun c hc=>?_) fun w5 hc5 ⟨F',hO5,hF5⟩=>?_
 · rcases hs4 c hc with h | h | h
   · exact .inl h
   · refine .inr fun hm=>?_
     have:=hGX c h
     rcases List.mem_cons.1 hm with e | hm
     · omega
     have:=hFl c hm;omega
   exact .inr fun hm=>by have:=hlts c hm;omega
 have hgF5:g∉F':=by obtain ⟨_,_,_,_,_,hn,_⟩:=hO5;exact hn
 have hc25:Chg (g :: F) w w5:=(hx12.chg _).trans (hc5.mono fun c hc=>by
   rcases List.mem_cons.1 hc with rfl | hc
   · simp
   simp [hGF c hc])
 refine NIL.mk rfl ?_
 refine zaa zfn ?_
 refine zab (α:=RIns) zeX (zji hO5.at) (Ext.refl w5) fun v18 k18=>?_
 obtain ⟨q18,h18⟩:=zh4 k18
 have q18:v18=v12:=q18
 have h18:Is w5 v12 (L++[x]):=h18
 rw [q18]
 refine zae u26 h18 ?_
 have hln:((L++[x]).length:Int)=(L.length:Int)+1:=by simp
 refine za8 (by show I64 (((L++[x]).length:Int)-1);rw [hln];unfold I64;omega) ?_
 refine ⟨?_,hc25,F',⟨c0,c1,c2,v12,h1,hO5,h.old.chgL hc25 (fun c hc=>?_),h4,fun c hc=>?_⟩,fun c hc=>?_⟩
 · show Value.int .i64 (((L++[x]).length:Int)-1)=_
   rw [hln];congr 1;omega
 · rcases List.mem_cons.1 hc with rfl | hc
   · exact h4
   exact e5 c hc
 · rcases hF5 c hc with h | h
   · rcases List.mem_cons.1 h with rfl | h
     · exact absurd hc hgF5
     exact e5 c h
   rcases hs4 c h with h | h | h
   · exact e5 c (hGF c h)
   · have:=hGX c h;omega
   omega
 rcases hF5 c hc with h | h
 · rcases List.mem_cons.1 h with rfl | h
   · exact absurd hc hgF5
   exact .inl h
 rcases hs4 c h with h | h | h
 · exact .inl (hGF c h)
 · exact .inr (hGX c h).1
 exact .inr (by omega)
theorem zha {A R:List DIns} {y:DIns} {k:Nat} {K:World→Prop} (h:EmF W g p (A++y :: R) F w) (hk:A.length=k) (hL:(A++y :: R).length≤1000000)
   (kk:∀ w' F',Chg (g :: F) w w'→EmF W g p (A++(⟨y.op,y.arg,y.term,((A++y :: R).length:Int)⟩:DIns) :: R) F' w'→(∀ c∈F',c∈F)→K w') :
   NIL (.pointer (some ⟨g,0,none⟩))<|RD Tryz.prog (Instr.fieldAt 169 (.pointer (some ⟨g,0,none⟩)) 1) w fun x110=>RD Tryz.prog (Instr.loadAt 26 x110) w fun x111=>
     NIL (.pointer (some ⟨g,0,none⟩))<|RD Tryz.prog (Instr.fieldAt 169 (.pointer (some ⟨g,0,none⟩)) 1) w fun x115=>RD Tryz.prog (Instr.loadAt 26 x115) w fun x116=>
     RD Tryz.prog (Builtin.len_ #[26] 3 [x116].toArray) w fun x117=>RD Tryz.prog (Instr.indexAt 26 x111 (.int .i64 (k:Int))) w fun x118=>RD Tryz.prog (Instr.fieldAt 77 x118 3) w fun x119=>
     OPU Tryz.prog (Instr.storeAt 3 x119 x117) w fun w=>K w:=by
 obtain ⟨e1,e2,e3,e4,e5⟩:=h.lt
 obtain ⟨c0,c1,c2,rv,h1,h2,h3,h4,h5⟩:=h
 have hlts:=h2.lts
 have hkl:k<(A++y :: R).length:=by simp;omega
 obtain ⟨G1,hL1⟩:=zgy (Lens.var h2)
 obtain ⟨cs1,⟨rfl,hrow⟩,hr1,_⟩:=hL1.here
 obtain ⟨b2,a2,cap2,G2,hv2,hG21,hL2⟩:=hL1.elemV (k:=k) hkl
 refine NIL.mk rfl ?_
 refine zaa zfn ?_
 refine zbI zeX hr1 ?_
 refine NIL.mk rfl ?_
 refine zaa zfn ?_
 refine zbI zeX hr1 ?_
 refine zae u26 (show Is w rv (A++y :: R) from hrow.own.is) ?_
 refine zp8 u26 zga hv2 hkl ?_
 obtain ⟨G3,hL3⟩:=zkU hL2
 refine zaa zet ?_
 refine zgZ ty3 hL3 (zbT (by unfold I64;omega)) (by simp) fun w' hc ⟨F',hO,hF'⟩=>?_
 have hgF':g∉F':=by obtain ⟨_,_,_,_,_,hn,_⟩:=hO;exact hn
 have hF:∀ c∈F',c∈F:=fun c hcm=>by
   rcases hF' c hcm with h | h
   · rcases List.mem_cons.1 h with rfl | h
     · exact absurd hcm hgF'
     exact h
   simp at h
 refine kk w' F' hc ⟨c0,c1,c2,rv,h1,?_,h3.chgL hc fun c hcm=>?_,h4,fun c hcm=>e5 c (hF c hcm)⟩ hF
 · have hO:OAt F' w' g 0 (⟨⟨c0⟩,⟨c1⟩,⟨c2⟩,⟨rv,(A++y :: R).set k ⟨((A++y :: R)[k]'hkl).op,((A++y :: R)[k]'hkl).arg,((A++y :: R)[k]'hkl).term,((A++y :: R).length:Int)⟩⟩⟩:DEm):=hO
   rw [zjf hk,zgw hk hkl] at hO
   exact hO
 rcases List.mem_cons.1 hcm with rfl | hcm
 · exact e3
 exact e5 c hcm
end
def F159 (a0 a1:Value) (w:World) (R:VW):Prop:=
 LOOPI [4] [(iV 0)] w fun u1 w next1=>
 rN 162 3 a1 w fun x11=>
 rC (u1 4) x11 w fun x12=>
 BR x12
 (rX 162 a1 (u1 4) w fun x17=>
 rL 209 x17 w fun x18=>
 oP (Instr.alloc 209 true (.tuple #[])) w fun x5 w=>
 oS 209 x5 x18 w fun w=>
 rF 209 x5 0 w fun x19=>
 rL 3 x19 w fun x20=>
 rB .eql 3 T0 U0 x20 (iV 1) w fun x22=>
 BR x22
 ((fun w=>NIL a0 <|
 rF 169 a0 0 w fun x26=>
 rF 112 x26 0 w fun x27=>
 rL 24 x27 w fun x28=>
 rF 209 x5 1 w fun x29=>
 rL 9 x29 w fun x30=>
 rF 209 x5 2 w fun x32=>
 rL 75 x32 w fun x33=>
 (fun w_=>cL 150 [x28,x30] w_ fun x31 w=>
 Ext w_ w ∧
 (fun w_=>cL 226 [x33] w_ fun x34 w=>
 Ext w_ w ∧
 rD (Instr.build 77 #[(0,(iV 1)),(1,x31),(2,x34)]) w fun x35=>
 cL 160 [a0,x35] w fun x36 w=>
 rA (u1 4) (iV 1) w fun x14=>
 next1 [x14] w) w) w) (World.drew1 w))
 (rB .eql 3 T0 U0 x20 (iV 4) w fun x38=>
 BR x38
 ((fun w=>NIL a0 <|
 rF 169 a0 0 w fun x42=>
 rL 112 x42 w fun x43=>
 rF 209 x5 1 w fun x44=>
 rL 9 x44 w fun x45=>
 (fun w_=>cL 225 [x43,x45] w_ fun x46 w=>
 Ext w_ w ∧
 rD (Instr.build 77 #[(0,(iV 4)),(1,x46)]) w fun x47=>
 cL 160 [a0,x47] w fun x48 w=>
 rA (u1 4) (iV 1) w fun x14=>
 next1 [x14] w) w) (World.drew1 w))
 (rB .eql 3 T0 U0 x20 (iV 5) w fun x50=>
 BR x50
 ((fun w=>NIL a0 <|
 rF 169 a0 0 w fun x54=>
 rL 112 x54 w fun x55=>
 rF 209 x5 1 w fun x56=>
 rL 9 x56 w fun x57=>
 (fun w_=>cL 225 [x55,x57] w_ fun x58 w=>
 Ext w_ w ∧
 rD (Instr.build 77 #[(0,(iV 5)),(1,x58)]) w fun x59=>
 cL 160 [a0,x59] w fun x60 w=>
 rA (u1 4) (iV 1) w fun x14=>
 next1 [x14] w) w) (World.drew1 w))
 (rB .eql 3 T0 U0 x20 (iV 6) w fun x62=>
 BR x62
 ((fun w=>NIL a0 <|
 rF 169 a0 0 w fun x66=>
 rF 112 x66 1 w fun x67=>
 rL 24 x67 w fun x68=>
 rF 209 x5 1 w fun x69=>
 rL 9 x69 w fun x70=>
 (fun w_=>cL 150 [x68,x70] w_ fun x71 w=>
 Ext w_ w ∧
 rD (Instr.build 77 #[(0,(iV 6)),(1,x71)]) w fun x72=>
 cL 160 [a0,x72] w fun x73 w=>
 rA (u1 4) (iV 1) w fun x14=>
 next1 [x14] w) w) (World.drew1 w))
 (rB .eql 3 T0 U0 x20 (iV 7) w fun x75=>
 BR x75
 ((fun w=>NIL a0 <|
 rF 169 a0 0 w fun x79=>
 rF 112 x79 1 w fun x80=>
 rL 24 x80 w fun x81=>
 rF 209 x5 1 w fun x82=>
 rL 9 x82 w fun x83=>
 (fun w_=>cL 150 [x81,x83] w_ fun x84 w=>
 Ext w_ w ∧
 rD (Instr.build 77 #[(0,(iV 7)),(1,x84)]) w fun x85=>
 cL 160 [a0,x85] w fun x86 w=>
 rA (u1 4) (iV 1) w fun x14=>
 next1 [x14] w) w) (World.drew1 w))
 (rB .eql 3 T0 U0 x20 (iV 8) w fun x88=>
 BR x88
 (rD (Instr.build 77 #[(0,(iV 8))]) w fun x90=>
 cL 160 [a0,x90] w fun x91 w=>
 rA (u1 4) (iV 1) w fun x14=>
 next1 [x14] w)
 (rB .eql 3 T0 U0 x20 (iV 3) w fun x93=>
 BR x93
 (rF 209 x5 2 w fun x95=>
 rL 75 x95 w fun x96=>
 cL 226 [x96] w fun x97 w=>
 rD (Instr.build 77 #[(0,(iV 2)),(2,x97)]) w fun x98=>
 cL 160 [a0,x98] w fun x99 w=>
 rF 209 x5 3 w fun x101=>
 rL 162 x101 w fun x102=>
 cL 159 [a0,x102] w fun x103 w=>
 rD (Instr.build 77 #[(0,(iV 3)),(3,x99)]) w fun x106=>
 cL 160 [a0,x106] w fun x107 w=>
 (fun w=>NIL a0 <|
 rF 169 a0 1 w fun x110=>
 rL 26 x110 w fun x111=>
 NIL a0 <|
 rF 169 a0 1 w fun x115=>
 rL 26 x115 w fun x116=>
 rN 26 3 x116 w fun x117=>
 rX 26 x111 x99 w fun x118=>
 rF 77 x118 3 w fun x119=>
 oS 3 x119 x117 w fun w=>
 rA (u1 4) (iV 1) w fun x14=>
 next1 [x14] w) (World.drew1 w))
 (rB .eql 3 T0 U0 x20 (iV 2) w fun x121=>
 BR x121
 (rF 209 x5 2 w fun x123=>
 rL 75 x123 w fun x124=>
 cL 226 [x124] w fun x125 w=>
 rD (Instr.build 77 #[(0,(iV 2)),(2,x125)]) w fun x126=>
 cL 160 [a0,x126] w fun x127 w=>
 rF 209 x5 3 w fun x129=>
 rL 162 x129 w fun x130=>
 cL 159 [a0,x130] w fun x131 w=>
 rF 209 x5 4 w fun x132=>
 rL 162 x132 w fun x133=>
 rN 162 3 x133 w fun x134=>
 rB .gtr 3 T0 U0 x134 (iV 0) w fun x135=>
 BR x135
 (rD (Instr.build 77 #[(0,(iV 3))]) w fun x137=>
 cL 160 [a0,x137] w fun x138 w=>
 (fun w=>NIL a0 <|
 rF 169 a0 1 w fun x141=>
 rL 26 x141 w fun x142=>
 NIL a0 <|
 rF 169 a0 1 w fun x146=>
 rL 26 x146 w fun x147=>
 rN 26 3 x147 w fun x148=>
 rX 26 x142 x127 w fun x149=>
 rF 77 x149 3 w fun x150=>
 oS 3 x150 x148 w fun w=>
 rF 209 x5 4 w fun x152=>
 rL 162 x152 w fun x153=>
 cL 159 [a0,x153] w fun x154 w=>
 (fun w=>NIL a0 <|
 rF 169 a0 1 w fun x157=>
 rL 26 x157 w fun x158=>
 NIL a0 <|
 rF 169 a0 1 w fun x162=>
 rL 26 x162 w fun x163=>
 rN 26 3 x163 w fun x164=>
 rX 26 x158 x138 w fun x165=>
 rF 77 x165 3 w fun x166=>
 oS 3 x166 x164 w fun w=>
 rA (u1 4) (iV 1) w fun x14=>
 next1 [x14] w) (World.drew1 w)) (World.drew1 w))
 ((fun w=>NIL a0 <|
 rF 169 a0 1 w fun x169=>
 rL 26 x169 w fun x170=>
 NIL a0 <|
 rF 169 a0 1 w fun x174=>
 rL 26 x174 w fun x175=>
 rN 26 3 x175 w fun x176=>
 rX 26 x170 x127 w fun x177=>
 rF 77 x177 3 w fun x178=>
 oS 3 x178 x176 w fun w=>
 rA (u1 4) (iV 1) w fun x14=>
 next1 [x14] w) (World.drew1 w)))
 (rA (u1 4) (iV 1) w fun x14=>
 next1 [x14] w)))))))))
 (R (Value.tuple #[]) w)
def cfg159:Cfg:=⟨extL,[],[(1,766247770432944429179173513575154591809369561091801072,[4])],[(6,[0,1,2,3,4,5,6,7,9,10,8,11,12,13],2304),(8,[0,1,2,3,4,5,6,7,8,9],128),(10,[0,1,2,3,4,5,6,7,8,9],128),(12,[0,1,2,3,4,5,6,7,8,9,10],256),(14,[0,1,2,3,4,5,6,7,8,9,10],256),(21,[0,1,2,3,4,5,6,7,8,9,10,11,12],0),(27,[0,1,2,3,4,5,6,7,8,9,10,11,12],0),(29,[0,1,2,3,4,5,6,7,8,9,10,11,12],0),(30,[0,1,2,3,4,5,6,7,8,9,10,11,12],0)],[],[],[]⟩
theorem F159_call {a0 a1:Value} {w:World} {R:VW} (h:F159 a0 a1 w R):cL 159 [a0,a1] w R:=co (g:=cfg159) Tryz.func159 (by kernel_rfl) (by kernel_rfl) (by kernel_rfl) h
theorem zeo (G L P:List ByteArray) (x:DStmt) (a:Nat):emS G L P x a =
   if x.kind=1 then [⟨1,plc x.name G,x.term,0⟩]
   else if x.kind=4 then [⟨4,plc x.name P,term0,0⟩]
   else if x.kind=5 then [⟨5,plc x.name P,term0,0⟩]
   else if x.kind=6 then [⟨6,plc x.name L,term0,0⟩]
   else if x.kind=7 then [⟨7,plc x.name L,term0,0⟩]
   else if x.kind=8 then [⟨8,0,term0,0⟩]
   else if x.kind=3 then ⟨2,0,x.term,((a+1+(emL G L P x.body (a+1)).length+1:Nat):Int)⟩ :: (emL G L P x.body (a+1)++[⟨3,0,term0,(a:Int)⟩])
   else if x.kind=2 then
     (if x.els.length=0 then ⟨2,0,x.term,((a+1+(emL G L P x.body (a+1)).length:Nat):Int)⟩ :: emL G L P x.body (a+1)
     else ⟨2,0,x.term,((a+1+(emL G L P x.body (a+1)).length+1:Nat):Int)⟩ :: (emL G L P x.body (a+1) ++
       (⟨3,0,term0,((a+1+(emL G L P x.body (a+1)).length+1+(emL G L P x.els (a+1+(emL G L P x.body (a+1)).length+1)).length:Nat):Int)⟩ :: emL G L P x.els (a+1+(emL G L P x.body (a+1)).length+1))))
   else []:=by cases x;rw [emS];rfl
section
variable (G L P:List ByteArray)
mutual
theorem zoa:∀ (x:DStmt) (a:Nat),(emS G L P x a).length≤2*szS x
  | .mk k n t b e,a=>by
    have h1:=zgz b (a+1)
    have h2:=zgz e (a+1+(emL G L P b (a+1)).length+1)
    rw [emS,szS]
    repeat' split
    all_goals simp only [List.length_cons,List.length_nil,List.length_append];omega
theorem zgz:∀ (l:List DStmt) (a:Nat),(emL G L P l a).length≤2*szL l
  | [],a=>by rw [emL];simp
  | x :: l,a=>by
    have h1:=zoa x a
    have h2:=zgz l (a+(emS G L P x a).length)
    rw [emL,szL,List.length_append];omega
end
end
theorem zqa (x:DStmt):szS x=1+szL x.body+szL x.els:=by cases x;rw [szS];rfl
theorem zcV {g:Nat} {F F1:List Nat} {w w1 w2:World} (h:Chg (g :: F) w w1) (k:Chg (g :: F1) w1 w2) (hF:∀ c∈F1,c∈F∨w.heap.size≤c):Chg (g :: F) w w2:=
 ⟨k.os.trans h.os,k.tape.trans h.tape,k.output.trans h.output,Nat.le_trans h.size k.size,fun b hb hn=>(k.block b (Nat.lt_of_lt_of_le hb h.size) fun hm=>by
   simp only [List.mem_cons,not_or] at hn
   rcases List.mem_cons.1 hm with e | hm
   · exact hn.1 e
   rcases hF b hm with h | h
   · exact hn.2 h
   omega).trans (h.block b hb hn)⟩
theorem zqR {W w:World} {b:Nat} {x:DStmt} (h:AtB W w b 0 x):AtB W w b (0+6) x.body:=by
 obtain ⟨F,cs,hr,hc⟩:=h
 have h:AtB W w b 0 x.tup:=⟨F,cs,zdH.1 hr,hc⟩
 exact h.snd.snd.snd.fst
theorem zqS {W w:World} {b:Nat} {x:DStmt} (h:AtB W w b 0 x):AtB W w b (0+7) x.els:=by
 obtain ⟨F,cs,hr,hc⟩:=h
 have h:AtB W w b 0 x.tup:=⟨F,cs,zdH.1 hr,hc⟩
 exact h.snd.snd.snd.snd
theorem zl8 {W:World} {v:Value} {p:DProg} (h:Is W v p):p.procs.length≤9223372036854775807:=by
 obtain ⟨F,cs,hr,hv⟩:=h
 obtain ⟨F1,F2,x1,x2,rfl,hx,h1,F3,F4,x3,x4,rfl,hx2,h2,h3⟩:=hr
 obtain ⟨a,cap,Fi,xs,_,q1,q2,_⟩:=h3
 have q1:p.procs.length≤cap:=q1
 rw [zak] at q2
 omega
def zll (pr:List ByteArray) (n:Nat) (l:List DStmt):Prop:=∀ {W w:World} {g:Nat} {p:DProg} {L:List DIns} {F:List Nat} {v:Value},EmF W g p L F w→Is W v l→(∀ x∈l,StR pr n x)→L.length+2*szL l≤1000000 →
 CALL Tryz.prog 159 [.pointer (some ⟨g,0,none⟩),v] w fun r w'=>Chg (g :: F) w w'∧∃ F',EmF W g p (L++emL p.globals p.locks (p.procs.map DProc.name) l L.length) F' w'∧∀ c∈F',c∈F∨w.heap.size≤c
def zrr (W w:World) (g:Nat) (p:DProg) (L:List DIns) (F:List Nat) (l:List DStmt) (k:Nat) (us:List Value) (w':World):Prop:=
 us=[.int .i64 (k:Int)]∧∃ L1 F1,k≤l.length∧L++emL p.globals p.locks (p.procs.map DProc.name) l L.length=L1++emL p.globals p.locks (p.procs.map DProc.name) (l.drop k) L1.length∧L1.length+2*szL (l.drop k)≤1000000 ∧
   Chg (g :: F) w w'∧EmF W g p L1 F1 w'∧∀ c∈F1,c∈F∨w.heap.size≤c
theorem zfY {pr:List ByteArray} {n:Nat} {l:List DStmt} (ih:∀ m l,m+1=n→zll pr m l) (inil:∀ m,zll pr m []):zll pr n l:=by
 intro W w g p L F v hE h hs hlen
 have hln:=zaf h
 obtain ⟨-,e2,e3,e4,e5⟩:=hE.lt
 have e1:=hE.lt.1
 refine F159_call ?_
 unfold F159
 refine zaF l.length (zrr W w g p L F l) 0 (Nat.zero_le _) ⟨rfl,L,F,Nat.zero_le _,by simp,by simpa using hlen,Chg.refl _ _,hE,fun c hc=>.inl hc⟩ ?_
 rintro k m u w1 hkm ⟨hu,L1,F1,hkl,heq,hlen1,hc1,hE1,hF1⟩
 simp only [List.map_cons,List.map_nil,List.cons.injEq,and_true] at hu
 rw [hu]
 have hsz1:=hc1.size
 refine zae zd3 h ?_
 refine zai ?_
 refine br (fun hlt=>?_) (fun hge=>?_)
 rotate_left
 · have hk:k=l.length:=by omega
   subst hk
   rw [List.drop_length,emL,List.append_nil] at heq
   rw [heq]
   exact ⟨hc1,F1,hE1,hF1⟩
 have hk:k<l.length:=by omega
 obtain ⟨x,hx⟩:∃ x,x=l[k]:=⟨_,rfl⟩
 have hxs:StR pr n x:=by rw [hx];exact hs _ (List.getElem_mem hk)
 have hdr:l.drop k=x :: l.drop (k+1):=by rw [hx];exact List.drop_eq_getElem_cons hk
 rw [hdr,emL] at heq
 rw [hdr,szL] at hlen1
 have hel:=zoa p.globals p.locks (p.procs.map DProc.name) x L1.length
 have hszx:=zqa x
 have hfin:∀ w' F2,Chg (g :: F) w w'→EmF W g p (L1++emS p.globals p.locks (p.procs.map DProc.name) x L1.length) F2 w'→(∀ c∈F2,c∈F∨w.heap.size≤c) →
     ∃ m',m'<m∧∃ k',k'+m'=l.length∧zrr W w g p L F l k' [.int .i64 ((k+1:Nat):Int)] w':=fun w' F2 hc hE hF=>
   ⟨m-1,by omega,k+1,by omega,rfl,_,F2,by omega,by rw [heq,List.length_append,List.append_assoc],by rw [List.length_append];omega,hc,hE,hF⟩
 obtain ⟨f1,f2,f3,f4,f5⟩:=hE1.lt
 have hW1:=hE1.old
 refine zad zd3 zbp h hk fun b17 o17 hA17=>?_
 rw [←hx] at hA17
 refine zab zbp hA17 hW1 fun v18 h18=>?_
 refine zes znE rfl zbp rfl h18 hW1 fun w2 hx2 hA5 hV5=>?_
 have hs2:=hx2.size
 have hg5:=hV5.lt
 have hE2:=hE1.ext hx2
 have hB5:=zk5 h18 hV5 rfl
 have hc2:Chg (g :: F) w w2:=hc1.trans (hx2.chg _)
 have hkind:(x.kind=1∨x.kind=2∨x.kind=3)→TmR x.term:=fun hq=>by
   have h0:St0 pr x→TmR x.term:=fun q=>by
     rcases q with q | q | q | q
     · exact q.2.2.1
     · have:=q.1;omega
     · have:=q.1;omega
     have:=q.1;omega
   cases n with
   | zero=>exact h0 hxs.zero
   | succ n=>
     rcases hxs.succ with q | ⟨_,_,h3,_⟩
     · exact h0 q
     exact h3
 have hkid:∃ q,(∀ y∈x.body,StR pr q y)∧(∀ y∈x.els,StR pr q y)∧zll pr q x.body∧zll pr q x.els:=by
   have h0:St0 pr x→x.body=[]∧x.els=[]:=fun h=>by rcases h with q | q | q | q<;>exact ⟨q.2.2.2.1,q.2.2.2.2⟩
   cases n with
   | zero=>
     obtain ⟨h1,h2⟩:=h0 hxs.zero
     rw [h1,h2]
     exact ⟨0,by simp,by simp,inil 0,inil 0⟩
   | succ n=>
     rcases hxs.succ with q | ⟨_,_,_,h4,h5⟩
     · obtain ⟨h1,h2⟩:=h0 q
       rw [h1,h2]
       exact ⟨0,by simp,by simp,inil 0,inil 0⟩
     exact ⟨n,h4,h5,ih n _ rfl,ih n _ rfl⟩
 obtain ⟨q,hqb,hqe,ihb,ihe⟩:=hkid
 have hat2:=hB5.at hE2.old
 refine zaa zdQ ?_
 refine zac ty3 (zbY hat2) (Ext.refl _) fun hI20=>?_
 -- an instruction of one's own behind what there is
 have hput:∀ {w3:World} {lo hi:Nat} {u:Value} {y:DIns} {K:Value→World→Prop},Ext w2 w3→OwnI lo hi w3 u y→w1.heap.size≤lo→lo≤w3.heap.size →
     (∀ w4 F4,Chg (g :: F) w w4→EmF W g p (L1++[y]) F4 w4→(∀ c∈F4,c∈F1∨w1.heap.size≤c)→AtB W w4 w1.heap.size 0 x→w1.heap.size<w4.heap.size→w1.heap.size∉F4∨lo≤w1.heap.size→K (.int .i64 (L1.length:Int)) w4)→CALL Tryz.prog 160 [.pointer (some ⟨g,0,none⟩),u] w3 K:=by
   intro w3 lo hi u y K hx3 ho h1 h2 hK
   have hs3:=hx3.size
   refine (zfX (hE2.ext hx3) ho (by omega) (fun c hc=>by have:=f2 c hc;omega) h2 (by omega)).mono ?_
   rintro _ w4 ⟨rfl,hc4,F4,hE4,hF4⟩
   have hs4:=hc4.size
   refine hK w4 F4 (zcV (hc2.trans (hx3.chg _)) hc4 hF1) hE4 (fun c hc=>(hF4 c hc).imp id fun h=>by omega) ((hB5.ext hx3).keep (hc4.block _ (by omega) fun hm=>?_)) (by omega) ?_
   · rcases List.mem_cons.1 hm with e | hm
     · omega
     have:=f2 _ hm;omega
   rcases Nat.lt_or_ge w1.heap.size lo with hl | hl
   · refine .inl fun hm=>?_
     rcases hF4 _ hm with h | h
     · have:=f2 _ h;omega
     omega
   exact .inr hl
 refine zag ?_
 refine br (fun k1=>?_) (fun k1=>?_)
 · have hx3:=zah w2
   have hE3:=hE2.ext hx3
   refine NIL.mk rfl ?_
   refine zqQ hE3 fun v28 h28=>?_
   refine zaa zb7 ?_
   refine zam ty9 (za5 hat2) hx3 fun hS=>?_
   refine zaa zeE ?_
   refine zab zb6 (zcw hat2) hx3 fun v33 h33=>?_
   refine (zbF h28 hE3.old).mono ?_
   rintro _ w4 ⟨hx4,rfl⟩
   refine ⟨hx4,?_⟩
   have hw24:=(hkind (.inl k1)).2.2
   refine (zgx _ h33 (hx3.trans hx4) (by omega)).mono ?_
   rintro v34 w5 ⟨hx5,o34⟩
   have o34:=o34.toI
   have hs3:=hx3.size
   have hs4:=hx4.size
   have hs5:=hx5.size
   refine ⟨hx5,?_⟩
   have hpl:=zhq (s:=x.name) (l:=p.globals)
   have hpl2:=zaf h28
   refine zlk (by unfold I64;omega) (by unfold I64;omega) o34 fun v35 o35=>?_
   refine hput (hx3.trans (hx4.trans hx5)) o35 (by omega) (by omega) fun w6 F6 hc6 hE6 hF6 _ _ _=>?_
   refine zal (by omega) ?_
   refine hfin w6 F6 hc6 ?_ fun c hc=>(hF6 c hc).elim (hF1 c) fun h=>.inr (by omega)
   rw [zeo,if_pos k1];exact hE6
 refine zag ?_
 refine br (fun k4=>?_) (fun k4=>?_)
 · have hx3:=zah w2
   have hE3:=hE2.ext hx3
   have hs3:=hx3.size
   refine NIL.mk rfl ?_
   refine zpA hE3 fun v28 h28=>?_
   refine zaa zb7 ?_
   refine zam ty9 (za5 hat2) hx3 fun hS=>?_
   refine (zhK h28 hE3.old).mono ?_
   rintro _ w4 ⟨hx4,rfl⟩
   have hs4:=hx4.size
   refine ⟨hx4,?_⟩
   have hpl:=zhq (s:=x.name) (l:=p.procs.map DProc.name)
   have hpl2:p.procs.length≤9223372036854775807:=zl8 h28
   rw [List.length_map] at hpl
   refine ze3 (lo:=w4.heap.size) (hi:=w4.heap.size) (by unfold I64;omega) (by unfold I64;omega) fun v35 o35=>?_
   refine hput (hx3.trans hx4) o35 (by omega) (by omega) fun w6 F6 hc6 hE6 hF6 _ _ _=>?_
   refine zal (by omega) ?_
   refine hfin w6 F6 hc6 ?_ fun c hc=>(hF6 c hc).elim (hF1 c) fun h=>.inr (by omega)
   rw [zeo,if_neg k1,if_pos k4];exact hE6
 refine zag ?_
 refine br (fun k5=>?_) (fun k5=>?_)
 · have hx3:=zah w2
   have hE3:=hE2.ext hx3
   have hs3:=hx3.size
   refine NIL.mk rfl ?_
   refine zpA hE3 fun v28 h28=>?_
   refine zaa zb7 ?_
   refine zam ty9 (za5 hat2) hx3 fun hS=>?_
   refine (zhK h28 hE3.old).mono ?_
   rintro _ w4 ⟨hx4,rfl⟩
   have hs4:=hx4.size
   refine ⟨hx4,?_⟩
   have hpl:=zhq (s:=x.name) (l:=p.procs.map DProc.name)
   have hpl2:p.procs.length≤9223372036854775807:=zl8 h28
   rw [List.length_map] at hpl
   refine ze3 (lo:=w4.heap.size) (hi:=w4.heap.size) (by unfold I64;omega) (by unfold I64;omega) fun v35 o35=>?_
   refine hput (hx3.trans hx4) o35 (by omega) (by omega) fun w6 F6 hc6 hE6 hF6 _ _ _=>?_
   refine zal (by omega) ?_
   refine hfin w6 F6 hc6 ?_ fun c hc=>(hF6 c hc).elim (hF1 c) fun h=>.inr (by omega)
   rw [zeo,if_neg k1,if_neg k4,if_pos k5];exact hE6
 refine zag ?_
 refine br (fun k6=>?_) (fun k6=>?_)
 · have hx3:=zah w2
   have hE3:=hE2.ext hx3
   have hs3:=hx3.size
   refine NIL.mk rfl ?_
   refine zpz hE3 fun v28 h28=>?_
   refine zaa zb7 ?_
   refine zam ty9 (za5 hat2) hx3 fun hS=>?_
   refine (zbF h28 hE3.old).mono ?_
   rintro _ w4 ⟨hx4,rfl⟩
   have hs4:=hx4.size
   refine ⟨hx4,?_⟩
   have hpl:=zhq (s:=x.name) (l:=p.locks)
   have hpl2:=zaf h28
   refine ze3 (lo:=w4.heap.size) (hi:=w4.heap.size) (by unfold I64;omega) (by unfold I64;omega) fun v35 o35=>?_
   refine hput (hx3.trans hx4) o35 (by omega) (by omega) fun w6 F6 hc6 hE6 hF6 _ _ _=>?_
   refine zal (by omega) ?_
   refine hfin w6 F6 hc6 ?_ fun c hc=>(hF6 c hc).elim (hF1 c) fun h=>.inr (by omega)
   rw [zeo,if_neg k1,if_neg k4,if_neg k5,if_pos k6];exact hE6
 refine zag ?_
 refine br (fun k7=>?_) (fun k7=>?_)
 · have hx3:=zah w2
   have hE3:=hE2.ext hx3
   have hs3:=hx3.size
   refine NIL.mk rfl ?_
   refine zpz hE3 fun v28 h28=>?_
   refine zaa zb7 ?_
   refine zam ty9 (za5 hat2) hx3 fun hS=>?_
   refine (zbF h28 hE3.old).mono ?_
   rintro _ w4 ⟨hx4,rfl⟩
   have hs4:=hx4.size
   refine ⟨hx4,?_⟩
   have hpl:=zhq (s:=x.name) (l:=p.locks)
   have hpl2:=zaf h28
   refine ze3 (lo:=w4.heap.size) (hi:=w4.heap.size) (by unfold I64;omega) (by unfold I64;omega) fun v35 o35=>?_
   refine hput (hx3.trans hx4) o35 (by omega) (by omega) fun w6 F6 hc6 hE6 hF6 _ _ _=>?_
   refine zal (by omega) ?_
   refine hfin w6 F6 hc6 ?_ fun c hc=>(hF6 c hc).elim (hF1 c) fun h=>.inr (by omega)
   rw [zeo,if_neg k1,if_neg k4,if_neg k5,if_neg k6,if_pos k7];exact hE6
 refine zag ?_
 refine br (fun k8=>?_) (fun k8=>?_)
 · refine zhL (lo:=w2.heap.size) (hi:=w2.heap.size) (by unfold I64;omega) fun v35 o35=>?_
   refine hput (Ext.refl w2) o35 (by omega) (by omega) fun w6 F6 hc6 hE6 hF6 _ _ _=>?_
   refine zal (by omega) ?_
   refine hfin w6 F6 hc6 ?_ fun c hc=>(hF6 c hc).elim (hF1 c) fun h=>.inr (by omega)
   rw [zeo,if_neg k1,if_neg k4,if_neg k5,if_neg k6,if_neg k7,if_pos k8];exact hE6
 have hlb:=zgz p.globals p.locks (p.procs.map DProc.name) x.body (L1.length+1)
 refine zag ?_
 refine br (fun k3=>?_) (fun k3=>?_)
 · refine zaa zeE ?_
   refine zab zb6 (zcw hat2) (Ext.refl _) fun v96 h96=>?_
   have hw24:=(hkind (.inr (.inr k3))).2.2
   refine (zgx _ h96 (Ext.refl _) (by omega)).mono ?_
   rintro v97 w4 ⟨hx4,o97⟩
   have o97:=o97.toI
   have hs4:=hx4.size
   refine ziu (by unfold I64;omega) o97 fun v98 o98=>?_
   refine hput hx4 o98 (by omega) (by omega) fun w5 F5 hc5 hE5 hF5 hB5' hg5' _=>?_
   refine zaa zda ?_
   refine zdz zcB (zqR hB5') hE5.old (Ext.refl _) fun v102 h102=>?_
   refine (ihb hE5 h102 hqb (by simp;omega)).mono ?_
   rintro r103 w6 ⟨hc6,F6,hE6,hF6⟩
   have hs5:=hc5.size
   have hs6:=hc6.size
   obtain ⟨z1,z2,z3,z4,z5⟩:=hE6.lt
   refine zmM (lo:=w6.heap.size) (hi:=w6.heap.size) (by unfold I64;omega) (by unfold I64;omega) fun v106 o106=>?_
   refine (zfX hE6 o106 z1 z2 (Nat.le_refl _) (by simp;omega)).mono ?_
   rintro r107 w7 ⟨-,hc7,F7,hE7,hF7⟩
   have hs7:=hc7.size
   have hx8:=zah w7
   have e7:L1++[(⟨2,0,x.term,0⟩:DIns)]++emL p.globals p.locks (p.procs.map DProc.name) x.body (L1++[(⟨2,0,x.term,0⟩:DIns)]).length++[⟨3,0,term0,(L1.length:Int)⟩] =
       L1++(⟨2,0,x.term,0⟩:DIns) :: (emL p.globals p.locks (p.procs.map DProc.name) x.body (L1.length+1)++[⟨3,0,term0,(L1.length:Int)⟩]):=by simp
   rw [e7] at hE7
   have hF6':∀ c∈F6,c∈F∨w.heap.size≤c:=fun c hc=>(hF6 c hc).elim (fun h=>(hF5 c h).elim (hF1 c) fun h=>.inr (by omega)) fun h=>.inr (by omega)
   have hF7':∀ c∈F7,c∈F∨w.heap.size≤c:=fun c hc=>(hF7 c hc).elim (hF6' c) fun h=>.inr (by omega)
   have hc07:=zcV (zcV hc5 hc6 fun c hc=>(hF5 c hc).elim (hF1 c) fun h=>.inr (by omega)) hc7 hF6'
   refine zha (hE7.ext hx8) rfl (by simp;omega) fun w9 F9 hc9 hE9 hF9=>?_
   refine zal (by omega) ?_
   refine hfin w9 F9 (zcV (hc07.trans (hx8.chg _)) hc9 hF7') ?_ fun c hc=>hF7' c (hF9 c hc)
   rw [zeo,if_neg k1,if_neg k4,if_neg k5,if_neg k6,if_neg k7,if_neg k8,if_pos k3]
   have:((L1++(⟨2,0,x.term,0⟩:DIns) :: (emL p.globals p.locks (p.procs.map DProc.name) x.body (L1.length+1)++[⟨3,0,term0,(L1.length:Int)⟩])).length:Int)=((L1.length+1+(emL p.globals p.locks (p.procs.map DProc.name) x.body (L1.length+1)).length+1:Nat):Int):=by
     simp only [List.length_append,List.length_cons,List.length_nil];omega
   rw [this] at hE9
   exact hE9
 refine zag ?_
 refine br (fun k2=>?_) (fun k2=>?_)
 rotate_left
 · exfalso
   have h0:St0 pr x→False:=fun q=>by rcases q with q | q | q | q<;>(have:=q.1;omega)
   cases n with
   | zero=>exact h0 hxs.zero
   | succ n=>
     rcases hxs.succ with q | ⟨q,_⟩
     · exact h0 q
     omega
 refine zaa zeE ?_
 refine zab zb6 (zcw hat2) (Ext.refl _) fun v124 h124=>?_
 have hw24:=(hkind (.inr (.inl k2))).2.2
 refine (zgx _ h124 (Ext.refl _) (by omega)).mono ?_
 rintro v125 w4 ⟨hx4,o125⟩
 have o125:=o125.toI
 have hs4:=hx4.size
 refine ziu (by unfold I64;omega) o125 fun v126 o126=>?_
 refine hput hx4 o126 (by omega) (by omega) fun w5 F5 hc5 hE5 hF5 hB5' hg5' hgF5=>?_
 have hgF5:w1.heap.size∉F5:=hgF5.elim id fun h=>by omega
 have hs5:=hc5.size
 refine zaa zda ?_
 refine zdz zcB (zqR hB5') hE5.old (Ext.refl _) fun v130 h130=>?_
 refine (ihb hE5 h130 hqb (by simp;omega)).mono ?_
 rintro r131 w6 ⟨hc6,F6,hE6,hF6⟩
 have hs6:=hc6.size
 have hB6:=hB5'.keep (hc6.block _ hg5' fun hm=>by
   rcases List.mem_cons.1 hm with e | hm
   · omega
   exact hgF5 hm)
 obtain ⟨z1,z2,z3,z4,z5⟩:=hE6.lt
 have hF5':∀ c∈F5,c∈F∨w.heap.size≤c:=fun c hc=>(hF5 c hc).elim (hF1 c) fun h=>.inr (by omega)
 have hF6':∀ c∈F6,c∈F∨w.heap.size≤c:=fun c hc=>(hF6 c hc).elim (hF5' c) fun h=>.inr (by omega)
 have hc06:=zcV hc5 hc6 hF5'
 have e6:L1++[(⟨2,0,x.term,0⟩:DIns)]++emL p.globals p.locks (p.procs.map DProc.name) x.body (L1++[(⟨2,0,x.term,0⟩:DIns)]).length =
     L1++(⟨2,0,x.term,0⟩:DIns) :: emL p.globals p.locks (p.procs.map DProc.name) x.body (L1.length+1):=by simp
 rw [e6] at hE6
 obtain ⟨B,hB⟩:∃ B,B=emL p.globals p.locks (p.procs.map DProc.name) x.body (L1.length+1):=⟨_,rfl⟩
 rw [←hB] at hE6 hlb
 refine zaa zcC ?_
 refine zdz zcB (zqS hB6) hE6.old (Ext.refl _) fun v133 h133=>?_
 refine zae zd3 h133 ?_
 refine zci ?_
 refine br (fun ke=>?_) (fun ke=>?_)
 · refine zhL (lo:=w6.heap.size) (hi:=w6.heap.size) (by unfold I64;omega) fun v137 o137=>?_
   refine (zfX hE6 o137 z1 z2 (Nat.le_refl _) (by simp;omega)).mono ?_
   rintro r138 w7 ⟨h138,hc7,F7,hE7,hF7⟩
   rw [h138]
   have hs7:=hc7.size
   have hx8:=zah w7
   have hs8:=hx8.size
   have e7:L1++(⟨2,0,x.term,0⟩:DIns) :: B++[⟨3,0,term0,0⟩]=L1++(⟨2,0,x.term,0⟩:DIns) :: (B++[⟨3,0,term0,0⟩]):=by simp
   rw [e7] at hE7
   have hF7':∀ c∈F7,c∈F∨w.heap.size≤c:=fun c hc=>(hF7 c hc).elim (hF6' c) fun h=>.inr (by omega)
   have hc07:=zcV hc06 hc7 hF6'
   have hgF6:w1.heap.size∉F6:=fun hm=>(hF6 _ hm).elim hgF5 fun h=>by omega
   have hgF7:w1.heap.size∉F7:=fun hm=>(hF7 _ hm).elim hgF6 fun h=>by omega
   have hB7:=hB6.keep (hc7.block _ (by omega) fun hm=>by
     rcases List.mem_cons.1 hm with e | hm
     · omega
     exact hgF6 hm)
   refine zha (hE7.ext hx8) rfl (by simp;omega) fun w9 F9 hc9 hE9 hF9=>?_
   have hs9:=hc9.size
   have hB9:=(hB7.ext hx8).keep (hc9.block _ (by omega) fun hm=>by
     rcases List.mem_cons.1 hm with e | hm
     · omega
     exact hgF7 hm)
   refine zaa zcC ?_
   refine zdz zcB (zqS hB9) hE9.old (Ext.refl _) fun v153 h153=>?_
   obtain ⟨y0,hy0⟩:∃ y0:DIns,y0=⟨2,0,x.term,((L1++(⟨2,0,x.term,0⟩:DIns) :: (B++[⟨3,0,term0,0⟩])).length:Int)⟩:=⟨_,rfl⟩
   have hE9:EmF W g p (L1++y0 :: (B++[⟨3,0,term0,0⟩])) F9 w9:=by rw [hy0];exact hE9
   refine (ihe hE9 h153 hqe (by simp;omega)).mono ?_
   rintro r154 w10 ⟨hc10,F10,hE10,hF10⟩
   have hF9':∀ c∈F9,c∈F∨w.heap.size≤c:=fun c hc=>hF7' c (hF9 c hc)
   have hF10':∀ c∈F10,c∈F∨w.heap.size≤c:=fun c hc=>(hF10 c hc).elim (hF9' c) fun h=>.inr (by omega)
   have hc010:=zcV (zcV (hc07.trans (hx8.chg _)) hc9 hF7') hc10 hF9'
   have hx11:=zah w10
   have hle:=zgz p.globals p.locks (p.procs.map DProc.name) x.els (L1++y0 :: (B++[⟨3,0,term0,0⟩])).length
   have hn9:(L1++y0 :: (B++[(⟨3,0,term0,0⟩:DIns)])).length=L1.length+1+B.length+1:=by simp only [List.length_append,List.length_cons,List.length_nil];omega
   rw [hn9] at hE10 hle
   obtain ⟨E,hEe⟩:∃ E,E=emL p.globals p.locks (p.procs.map DProc.name) x.els (L1.length+1+B.length+1):=⟨_,rfl⟩
   rw [←hEe] at hE10 hle
   have e10:L1++y0 :: (B++[(⟨3,0,term0,0⟩:DIns)])++E=(L1++y0 :: B)++(⟨3,0,term0,0⟩:DIns) :: E:=by simp
   rw [e10] at hE10
   refine zha (hE10.ext hx11) (by simp) (by simp only [List.length_append,List.length_cons];omega) fun w12 F12 hc12 hE12 hF12=>?_
   refine zal (by omega) ?_
   refine hfin w12 F12 (zcV (hc010.trans (hx11.chg _)) hc12 hF10') ?_ fun c hc=>hF10' c (hF12 c hc)
   rw [zeo,if_neg k1,if_neg k4,if_neg k5,if_neg k6,if_neg k7,if_neg k8,if_neg k3,if_pos k2,if_neg (by omega),←hB,←hEe]
   have q1:y0=⟨2,0,x.term,((L1.length+1+B.length+1:Nat):Int)⟩:=by
     rw [hy0];congr 1
     simp only [List.length_append,List.length_cons,List.length_nil];omega
   have q2:(((L1++y0 :: B)++(⟨3,0,term0,0⟩:DIns) :: E).length:Int)=((L1.length+1+B.length+1+E.length:Nat):Int):=by
     simp only [List.length_append,List.length_cons,List.length_nil];omega
   rw [q2,q1] at hE12
   simpa using hE12
 have hx8:=zah w6
 refine zha (hE6.ext hx8) rfl (by simp;omega) fun w9 F9 hc9 hE9 hF9=>?_
 refine zal (by omega) ?_
 refine hfin w9 F9 (zcV (hc06.trans (hx8.chg _)) hc9 hF6') ?_ fun c hc=>hF6' c (hF9 c hc)
 rw [zeo,if_neg k1,if_neg k4,if_neg k5,if_neg k6,if_neg k7,if_neg k8,if_neg k3,if_pos k2,if_pos (by omega),←hB]
 have:((L1++(⟨2,0,x.term,0⟩:DIns) :: B).length:Int)=((L1.length+1+B.length:Nat):Int):=by
   simp only [List.length_append,List.length_cons,List.length_nil];omega
 rw [this] at hE9
 exact hE9
theorem zgP (pr:List ByteArray) (n:Nat):zll pr n []:=by
 intro W w g p L F v hE h hs hlen
 refine F159_call ?_
 unfold F159
 refine zaF 0 (fun k us w'=>us=[.int .i64 (k:Int)]∧w'=w) 0 (Nat.zero_le _) ⟨rfl,rfl⟩ ?_
 rintro k m u w1 hkm ⟨hu,rfl⟩
 simp only [List.map_cons,List.map_nil,List.cons.injEq,and_true] at hu
 rw [hu]
 refine zae zd3 h ?_
 refine zai ?_
 refine br (fun hlt=>by simp at hlt;omega) (fun hge=>?_)
 exact ⟨Chg.refl _ _,F,by rw [emL,List.append_nil];exact hE,fun c hc=>.inl hc⟩
theorem zhM (pr:List ByteArray):∀ (n:Nat) (l:List DStmt),zll pr n l
 | 0,l=>zfY (n:=0) (l:=l) (fun m l h=>absurd h (by omega)) (zgP pr)
 | n + 1, l => zfY (n := n + 1) (l := l) (fun m l h => by
     obtain rfl:m=n:=by omega
     exact zhM pr m l) (zgP pr)
def F129 (a0:Value) (w:World) (R:VW):Prop:=
 oP (Instr.alloc 112 true (.tuple #[])) w fun x2 w=>
 oP (Instr.buildSlice 24 4 #[(0,(Value.string (ByteArray.mk #[120]))),(1,(Value.string (ByteArray.mk #[121]))),(2,(Value.string (ByteArray.mk #[122]))),(3,(Value.string (ByteArray.mk #[117])))]) w fun x7 w=>
 oP (Instr.buildSlice 24 3 #[(0,(Value.string (ByteArray.mk #[97]))),(1,(Value.string (ByteArray.mk #[98]))),(2,(Value.string (ByteArray.mk #[109])))]) w fun x8 w=>
 rD (Instr.build 112 #[(0,x7),(1,x8)]) w fun x9=>
 oP (Instr.alloc 112 true (.tuple #[])) w fun x3 w=>
 oS 112 x3 x9 w fun w=>
 oP (Instr.buildSlice 24 4 #[(0,(Value.string (ByteArray.mk #[109,97,105,110]))),(1,(Value.string (ByteArray.mk #[112]))),(2,(Value.string (ByteArray.mk #[113]))),(3,(Value.string (ByteArray.mk #[114])))]) w fun x10 w=>
 cL 71 [a0,(iV 3)] w fun x12 w=>
 rB .add 3 U0 T0 (iV 2) x12 w fun x13=>
 rD (Instr.sliceAt 24 x10 none (some x13) none) w fun x14=>
 LOOPI [5] [(iV 0)] w fun u4 w next4=>
 rN 24 3 x14 w fun x17=>
 rC (u4 5) x17 w fun x18=>
 BR x18
 (cL 198 [a0,(iV 2)] w fun x22 w=>
 cL 198 [a0,(iV 1)] w fun x24 w=>
 oP (Builtin.append_ #[162,162] 162 [x22,x24].toArray) w fun x25 w=>
 JOIN [6] (fun J9=>
 cL 199 [x25,(iV 50)] w fun x27 w=>
 rB .lss 3 T0 U0 x27 (iV 0) w fun x28=>
 BR x28
 (rD (Instr.build 209 #[(0,(iV 8))]) w fun x29=>
 oP (Instr.buildSlice 162 1 #[(0,x29)]) w fun x30 w=>
 J9 [x30] w)
 (J9 [x25] w)) (fun u9 w=>
 JOIN [6] (fun J11=>
 cL 92 [a0,(iV 2)] w fun x32 w=>
 BR x32
 (cL 200 [a0,(u9 6)] w fun x35 w=>
 J11 [x35] w)
 (J11 [(u9 6)] w)) (fun u11 w=>
 JOIN [6] (fun J13=>
 rB .eql 3 T0 U0 (u4 5) (iV 0) w fun x37=>
 BR x37
 (cL 92 [a0,(iV 2)] w fun x40 w=>
 BR x40
 (rX 24 x14 (iV 1) w fun x43=>
 rL 9 x43 w fun x44=>
 rD (Instr.build 209 #[(0,(iV 5)),(1,x44)]) w fun x45=>
 oP (Instr.buildSlice 162 1 #[(0,x45)]) w fun x46 w=>
 oP (Builtin.append_ #[162,162] 162 [x46,(u11 6)].toArray) w fun x48 w=>
 J13 [x48] w)
 (J13 [(u11 6)] w))
 (J13 [(u11 6)] w)) (fun u13 w=>
 (fun w=>XR fun X=>RDX tp X (Instr.fieldAt 112 x3 2) w fun x49=>
 RDX tp X (Instr.loadAt 110 x49) w fun x50=>
 RDX tp X (Instr.indexAt 24 x14 (u4 5)) w fun x53=>
 RDX tp X (Instr.loadAt 9 x53) w fun x54=>
 RDX tp X (Instr.sliceAt 24 x14 (some (iV 1)) none none) w fun x58=>
 (fun w_=>cL 201 [a0,(u13 6),x58] w_ fun x59 w=>
 ExtX X w_ w ∧
 RDX tp X (Instr.build 164 #[(0,x54),(1,x59)]) w fun x60=>
 (fun w_=>oP (Instr.buildSlice 110 1 #[(0,x60)]) w_ fun x61 w=>
 ExtX X w_ w ∧
 (oP (Builtin.append_ #[110,110] 110 [x50,x61].toArray) w fun x62 w=>
 RDX tp X (Instr.fieldAt 112 x3 2) w fun x63=>
 oS 110 x63 x62 w fun w=>
 rA (u4 5) (iV 1) w fun x20=>
 next4 [x20] w)) w) w) (World.drew1 w)))))
 (rL 112 x3 w fun x64=>
 oS 112 x2 x64 w fun w=>
 rD (zaw 112 x2) w fun r2=>R r2 w)
def cfg129:Cfg:={ ext:=extL,joins:=[(9,2080374848,[6]),(11,66571993152,[6]),(13,562881233944640,[6])],loops:=[(4,18446744073709518944,[5])],draws:=[(13,[0,1,2,3,4,5,6,7,8,9,10,11,12,13,14,15],5120)],pars:=[],xs:=[13] }
theorem F129_call {a0:Value} {w:World} {R:VW} (h:F129 a0 w R):cL 129 [a0] w R:=co (g:=cfg129) Tryz.func129 (by kernel_rfl) (by kernel_rfl) (by kernel_rfl) h
theorem zmN {w:World} {n:ByteArray} {a:Option Addr} {m c:Nat}:(Instr.build 164 #[(0,.string n),(1,.slice a m c)]).run Tryz.prog w=.ok (.agg #[.string n,.slice a m c]) w:=by
 obtain ⟨v,h1,h2⟩:=zaR (P:=Tryz.prog) (w:=w) (K:=fun v=>v=.agg #[.string n,.slice a m c]) (t:=164) (parts:=#[(0,.string n),(1,.slice a m c)]) (cells:=#[.string n,.slice a m c]) (by kernel_rfl) rfl
 subst h2;exact h1 w (Ext.refl w)
theorem zo8 {X:Nat→Prop} {w:World} {lo hi n cap i:Nat} {a:Option Addr} {l:List ByteArray} {K:Value→Prop} (h:IsK lo hi w (.slice a n cap) l) (hn:n=l.length) (hil:i<l.length) (hX:∀ b,lo≤b→b<hi→¬X b)
   (k:l[i].size≤maxLen→K (.string l[i])):∃ p,(∀ w':World,(Instr.indexAt 24 (.slice a n cap) (.int .i64 (i:Int))).run Tryz.prog w'=.ok p w')∧RDX Tryz.prog X (Instr.loadAt 9 p) w K:=by
 subst hn
 obtain ⟨F,cs,⟨a',cap',Fi,xs,rfl,h1,h2,hc,h4⟩,hv⟩:=h.is
 simp only [mkv,Rep.agg,cond_false,List.headD_cons,Value.slice.injEq] at hv
 obtain ⟨rfl,_,rfl⟩:=hv
 rcases h4 with ⟨rfl,_⟩ | ⟨b,o,rfl,rfl,hr,hb⟩
 · simp at hil
 refine ⟨.pointer (some ⟨b,o+i*1,none⟩),fun w'=>by rw [zbz u24 ty9 (by omega) (by omega)];simp,?_⟩
 have key:∀ w':World,Is w' (.slice (some ⟨b,o,none⟩) l.length cap) l→w'.cell? ⟨b,o+i*1,none⟩=some (.string l[i])∧l[i].size≤maxLen:=by
   intro w' hw
   obtain ⟨F,cs,⟨a',cap',Fi,xs,rfl,h1,h2,hc,h4⟩,hv⟩:=hw
   simp only [mkv,Rep.agg,cond_false,List.headD_cons,Value.slice.injEq] at hv
   obtain ⟨rfl,_,rfl⟩:=hv
   rcases h4 with ⟨rfl,_⟩ | ⟨b2,o2,hbo,rfl,hr,hb⟩
   · simp at hil
   simp only [Option.some.injEq,Addr.mk.injEq,and_true] at hbo
   obtain ⟨rfl,rfl⟩:=hbo
   have e:l=l.take i++(l[i] :: l.drop (i+1)):=by simp
   rw [e] at hc
   obtain ⟨F1,F2,x1,x2,rfl,rfl,c1,c2⟩:=Cells.split hc
   obtain ⟨G,F3,cg,x3,rfl,rfl,⟨_,rfl,hs⟩,_⟩:=c2
   have hx1:x1.length=i:=by rw [Cells.len c1,List.length_take,Nat.min_eq_left (by omega)];exact Nat.mul_one i
   refine ⟨?_,hs⟩
   have:=hr i (.string l[i]) (by rw [List.getElem?_append_right (by omega),hx1];simp)
   simpa using this
 refine ⟨.string l[i],fun w' hx'=>?_,k (key w h.is).2⟩
 have h0:=(key w' (h.2 w' fun c h5 h6=>hx'.block c (Nat.lt_of_lt_of_le h6 h.1) (hX c h5 h6))).1
 rw [Nat.mul_one] at h0
 have hA:=zeA ty9 w'
 simp [Instr.loadAt,Instr.sureAddr,loadVar,hA,h0]
theorem zob (bs:List UInt8) (s:Cur):(zaQ bs 2 s).1.length≤4∧(zaQ bs 1 (zaQ bs 2 s).2).1.length≤4∧(zeH bs s).1.length≤50∧(zft bs (zeH bs s)).1.length≤53:=by
 refine ⟨zhy 4 0 _,zhy 4 0 _,?_,?_⟩
 · have:=zla bs s;have:=zjc (zeH bs s).1;omega
 have:=znT bs (zla bs s);have:=zjc (zft bs (zeH bs s)).1;omega
theorem zl9 {X:Nat→Prop} {w:World} {m:Sem Value} {p:Value} {K:Value→Prop} (h:∀ w':World,m.run Tryz.prog w'=.ok p w') (k:K p):RDX Tryz.prog X m w K:=⟨p,fun w' _=>h w',k⟩
theorem zoc {pr:List ByteArray} (h:1<pr.length):(pr.drop 1).getD 0 nO=pr[1]:=by
 rw [List.getD_eq_getElem?_getD,List.getElem?_drop,List.getElem?_eq_getElem h];rfl
theorem zh5 {bs:List UInt8} {pr l:List ByteArray} {k:Nat} {s:Cur} (hk:k<l.length):zba bs pr (l.drop k) k s =
   (⟨l[k],(zcE bs pr k s).1⟩ :: (zba bs pr (l.drop (k+1)) (k+1) (zcE bs pr k s).2).1,(zba bs pr (l.drop (k+1)) (k+1) (zcE bs pr k s).2).2):=by
 rw [List.drop_eq_getElem_cons hk,zba]
theorem zmO {W w:World} {g:Nat} {bs:List UInt8} {s:Cur} (hC:CurAt W g bs s w) :
   CALL Tryz.prog 129 [.pointer (some ⟨g,0,none⟩)] w fun r w'=>ChgI g (g+1) w w'∧CurAt W g bs (zch bs s).2 w'∧OwnI w.heap.size w'.heap.size w' r (zch bs s).1:=by
 have hgl:=hC.lt
 refine F129_call ?_
 unfold F129
 refine za6 zqF fun w1 hx1 hB1=>?_
 have hs1:=hx1.size
 have hg1:=hB1.lt
 refine zqN fun v7 w2 hx2 o7=>?_
 have hs2:=hx2.size
 refine zn4 fun v8 w3 hx3 o8=>?_
 have hs3:=hx3.size
 have o7:=o7.ext hx3
 obtain ⟨a7,cap7,rfl⟩:=zd9 o7
 obtain ⟨a8,cap8,rfl⟩:=zd9 o8
 refine zaR (cells:=#[.slice a7 glb.length cap7,.slice a8 lks.length cap8,.slice none 0 0]) (by kernel_rfl) ?_
 refine za6 zqF fun w4 hx4 hB4=>?_
 have hs4:=hx4.size
 have hg4:=hB4.lt
 have o7:=o7.ext hx4
 have o8:=o8.ext hx4
 refine za7 (x:=(⟨glb,lks,[]⟩:DProg)) (lo:=w1.heap.size) (hi:=w3.heap.size) zeD rfl hB4 rfl (zkb (l0:=w1.heap.size) (h0:=w2.heap.size) (l1:=w2.heap.size) (h1:=w3.heap.size) (l2:=w3.heap.size) (h2:=w3.heap.size) o7 o8 zbN (by omega) (by omega) (by omega) (by omega) (by omega) (by omega)) fun w5 hc5 hB5=>?_
 have hs5:=hc5.size
 have o7:=o7.chg hc5 (by omega)
 have o8:=o8.chg hc5 (by omega)
 have hx05:Ext w w5:=Ext.chgI (hx1.trans (hx2.trans (hx3.trans hx4))) hc5 (by omega)
 have hB15:=(hB1.ext (hx2.trans (hx3.trans hx4))).chgI hc5 (by omega)
 refine zqO fun v10 w6 hx6 o10=>?_
 have hs6:=hx6.size
 refine (zbV (hC.ext (hx05.trans hx6)) (by omega)).mono ?_
 rintro _ w7 ⟨hc7,hC7,rfl⟩
 have hs7:=hc7.size
 have o7:=(o7.ext hx6).chg hc7 (by omega)
 have o8:=(o8.ext hx6).chg hc7 (by omega)
 have o10:=o10.chg hc7 (by omega)
 have hB7:=(hB5.ext hx6).chgI hc7 (by omega)
 have hB17:=(hB15.ext hx6).chgI hc7 (by omega)
 have hbx:=zbM bs (n:=3) (by omega) s
 have hN:=zn5 bs s
 refine zb3 (by unfold I64;omega) ?_
 obtain ⟨a10,cap10,rfl⟩:=zd9 o10
 have hK10:=o10.isK (by omega)
 obtain ⟨np,hnp⟩:∃ np:Nat,np=2+(zbg bs 3 s).toNat:=⟨_,rfl⟩
 have hnp4:np≤prc4.length:=by show np≤4;omega
 have hprN:zhA bs s=prc4.take np:=by rw [hnp];rfl
 have hprl:(zhA bs s).length=np:=by rw [hprN,List.length_take];omega
 have hK:=hK10.take hnp4
 rw [←hprN] at hK
 have hsl:∀ w':World,(Instr.sliceAt 24 (.slice a10 prc4.length cap10) none (some (.int .i64 (2+zbg bs 3 s))) none).run Tryz.prog w'=.ok (.slice a10 np cap10) w':=fun w'=>by
   obtain ⟨a',cap',Fi',xs',hv',q1,q2,_⟩:=zct o10.is
   simp only [Value.slice.injEq] at hv'
   obtain ⟨rfl,_,rfl⟩:=hv'
   have hb:(Instr.sliceBounds true prc4.length cap10 none (some (.int .i64 (2+zbg bs 3 s))) none).run Tryz.prog w'=.ok (0,np,cap10) w':=by
     have h1:2+zbg bs 3 s≤(cap10:Int):=by omega
     have h2:(0:Int)≤2+zbg bs 3 s:=by omega
     have h3:(2+zbg bs 3 s).toNat=np:=by omega
     simp [Instr.sliceBounds,Instr.sliceBound,asIntOf,h1,h2,h3]
   simp only [Instr.sliceAt,Instr.slice,Sem.run_bind,run_underlying u24,Result.andThen_ok,hb,zaE ty9]
   simp
   exact fun _=>by cases a10<;>simp [Addr.add_mid,Addr.add]
 refine zbb (fun w' _=>hsl w') ?_
 obtain ⟨L,hL⟩:∃ L,L=zhA bs s:=⟨_,rfl⟩
 rw [←hL] at hK hN hprl
 have hp0:0<(L.drop 1).length:=by rw [List.length_drop];omega
 have hc07:ChgI g (g+1) w w7:=((hx05.trans hx6).toI).trans hc7
 refine zaF L.length (fun k us w'=>us=[.int .i64 (k:Int)]∧∃ (ps:List DProc) (s1:Cur) (vr:Value) (hi:Nat),k≤L.length∧ps.length=k∧zba bs (L.drop 1) L 0 (zaj bs 3 s)=(ps++(zba bs (L.drop 1) (L.drop k) k s1).1,(zba bs (L.drop 1) (L.drop k) k s1).2) ∧
     CurAt W g bs s1 w'∧ChgI g (g+1) w w'∧Blk w3.heap.size 112 w' [.slice a7 glb.length cap7,.slice a8 lks.length cap8,vr]∧OwnI w1.heap.size w2.heap.size w' (.slice a7 glb.length cap7) glb∧OwnI w2.heap.size w3.heap.size w' (.slice a8 lks.length cap8) lks ∧
     IsK w5.heap.size w6.heap.size w' (.slice a10 np cap10) L∧RowI w6.heap.size hi 164 w' vr ps∧w6.heap.size≤hi∧hi≤w'.heap.size∧Blk w.heap.size 112 w' [.slice none 0 0,.slice none 0 0,.slice none 0 0]) 0 (Nat.zero_le _)
     ⟨rfl,[],zaj bs 3 s,.slice none 0 0,w6.heap.size,Nat.zero_le _,rfl,by simp,hC7,hc07,hB7,o7,o8,hK,zcS _ _ _ _,Nat.le_refl _,by omega,hB17⟩ ?_
 rintro k m u w8 hkm ⟨hu,ps,s1,vr,hi,hkl,hps,hdr,hC8,hc8,hB8,o7,o8,hK8,r8,hhi0,hhi,hB18⟩
 simp only [List.map_cons,List.map_nil,List.cons.injEq,and_true] at hu
 rw [hu]
 have hs8:=hc8.size
 refine zae u24 hK8.is ?_
 refine zai ?_
 refine br (fun hlt=>?_) (fun hge=>?_)
 · have hk:k<L.length:=by omega
   rw [zh5 hk] at hdr
   obtain ⟨q1,q2,q3,q4⟩:=zob bs s1
   refine ((zle 2 (by omega)).2 hC8 rfl).mono ?_
   rintro v22 w9 ⟨hc9,hC9,r22⟩
   have hs9:=hc9.size
   refine ((zle 1 (by omega)).2 hC9 rfl).mono ?_
   rintro v24 w10 ⟨hc10,hC10,r24⟩
   have hs10:=hc10.size
   refine zmH (α:=DStmt) zd3 zbp zmv (r22.chg hc10 (by omega)) (by omega) r24.own (by omega) (by omega) (by rw [zak];omega) (by omega) fun v25 w11 hc11 r25=>?_
   have hs11:=hc11.size
   have hC11:=hC10.chg hc11 (by omega) (by omega)
   have hu11:UpG g w8.heap.size w8 w11:=(hc9.upG1.trans hc10.upG1).trans (hc11.upG (by omega))
   refine JOIN.mk (fun us w'=>∃ v,us=[v]∧UpG g w8.heap.size w8 w'∧CurAt W g bs (zeH bs s1).2 w'∧OwnI w8.heap.size w'.heap.size w' v (zeH bs s1).1) ?_ ?_
   · refine (zhG _ r25.is (Ext.refl _) (by omega) (by omega)).mono ?_
     rintro _ w12 ⟨hx12,rfl⟩
     have hs12:=hx12.size
     refine zai ?_
     refine br (fun h0=>?_) (fun h0=>?_)
     · refine zir (lo:=w12.heap.size) (hi:=w12.heap.size) (Nat.le_refl _) (by unfold I64;omega) fun v29 o29=>?_
       refine zd4 (α:=DStmt) (lo:=w12.heap.size) (hi:=w12.heap.size) zd3 zbp zqq (by decide) o29 (by omega) fun v30 w13 hx13 o30=>?_
       refine ⟨v30,rfl,(hu11.trans hx12.upG).trans hx13.upG,hC11.ext (hx12.trans hx13),?_⟩
       unfold zeH
       rw [if_pos h0]
       exact o30.mono (by omega) (by omega)
     refine ⟨v25,rfl,hu11.trans hx12.upG,hC11.ext hx12,?_⟩
     unfold zeH
     rw [if_neg h0]
     exact (r25.ext hx12).own.mono (by omega) (by omega)
   rintro u9 w14 ⟨v14,hu,hu14,hC14,o14⟩
   simp only [List.map_cons,List.map_nil,List.cons.injEq,and_true] at hu
   rw [hu]
   have hs14:=hu14.size
   have hgw:g<w8.heap.size:=by omega
   refine JOIN.mk (fun us w'=>∃ v,us=[v]∧UpG g w8.heap.size w8 w'∧CurAt W g bs (zft bs (zeH bs s1)).2 w'∧OwnI w8.heap.size w'.heap.size w' v (zft bs (zeH bs s1)).1) ?_ ?_
   · refine (ze0 hC14 (by omega)).mono ?_
     rintro _ w15 ⟨hc15,hC15,rfl⟩
     have hs15:=hc15.size
     have o15:=o14.chg hc15 (by omega)
     refine br (fun h0=>?_) (fun h0=>?_)
     · refine (zjh hC15 o15 (by omega) (by omega) hgw (by omega)).mono ?_
       rintro v35 w16 ⟨hu16,hC16,r16⟩
       refine ⟨v35,rfl,(hu14.trans hc15.upG1).trans hu16,?_,?_⟩
       · unfold zft;rw [if_pos h0];exact hC16
       unfold zft;rw [if_pos h0];exact r16.own
     refine ⟨v14,rfl,hu14.trans hc15.upG1,?_,?_⟩
     · unfold zft;rw [if_neg h0];exact hC15
     unfold zft;rw [if_neg h0];exact o15.mono (Nat.le_refl _) hs15
   rintro u11 w17 ⟨v17,hu,hu17,hC17,o17⟩
   simp only [List.map_cons,List.map_nil,List.cons.injEq,and_true] at hu
   rw [hu]
   have hs17:=hu17.size
   have hK17:=hK8.upG hu17 (by omega) (by omega)
   have hone:1<L.length:=by omega
   refine JOIN.mk (fun us w'=>∃ v,us=[v]∧UpG g w8.heap.size w8 w'∧CurAt W g bs (zgY bs k ((L.drop 1).getD 0 nO) (zft bs (zeH bs s1))).2 w'∧OwnI w8.heap.size w'.heap.size w' v (zgY bs k ((L.drop 1).getD 0 nO) (zft bs (zeH bs s1))).1) ?_ ?_
   · refine zag ?_
     refine br (fun hk0=>?_) (fun hk0=>?_)
     · have hk0':k=0:=by omega
       refine (ze0 hC17 (by omega)).mono ?_
       rintro _ w18 ⟨hc18,hC18,rfl⟩
       have hs18:=hc18.size
       have o18:=o17.chg hc18 (by omega)
       have hK18:=hK17.chgF hc18.toC (by simp;omega)
       refine br (fun h0=>?_) (fun h0=>?_)
       · refine zas (l:=L) (i:=1) u24 ty9 hK18.is (by omega) (by show 1<L.length;omega) fun b43 o43 hA43=>?_
         refine zam ty9 hA43 (Ext.refl _) fun hS44=>?_
         refine zca (lo:=w18.heap.size) (hi:=w18.heap.size) (Nat.le_refl _) (by unfold I64;omega) hS44 fun v45 o45=>?_
         refine ze2 (β:=DStmt) zd3 zbp zqq (by decide) (zit o45) fun v46 w19 hx19 r46=>?_
         have hs19:=hx19.size
         refine zgt (α:=DStmt) (lo0:=w8.heap.size) zd3 zbp zmv r46 (by omega) (o18.ext hx19) (by omega) (by omega) (by omega) (by rw [zak];simp;omega) (by simp;omega) fun v48 w20 hc20 r48=>?_
         refine ⟨v48,rfl,((hu17.trans hc18.upG1).trans hx19.upG).trans (hc20.upG (by omega)),?_,?_⟩
         · unfold zgY
           rw [if_pos hk0',if_pos h0]
           exact (hC18.ext hx19).chg hc20 (by omega) (by omega)
         unfold zgY
         rw [if_pos hk0',if_pos h0,zoc hone]
         exact r48.own
       refine ⟨v17,rfl,hu17.trans hc18.upG1,?_,?_⟩
       · unfold zgY;rw [if_pos hk0',if_neg h0];exact hC18
       unfold zgY;rw [if_pos hk0',if_neg h0];exact o18.mono (Nat.le_refl _) hs18
     have hk0':¬k=0:=by omega
     refine ⟨v17,rfl,hu17,?_,?_⟩
     · unfold zgY;rw [if_neg hk0'];exact hC17
     unfold zgY;rw [if_neg hk0'];exact o17
   rintro u13 w21 ⟨v21,hu,hu21,hC21,o21⟩
   simp only [List.map_cons,List.map_nil,List.cons.injEq,and_true] at hu
   rw [hu]
   have hs21:=hu21.size
   have hx22:=zah w21
   have hs22:=hx22.size
   generalize World.drew1 w21=w22 at *
   have hu22:UpG g w8.heap.size w8 w22:=hu21.trans hx22.upG
   have hB22:=hB8.upG hu22 (by omega) (by omega)
   have hK22:=hK8.upG hu22 (by omega) (by omega)
   have r22:=r8.upG hu22 (by omega) (by omega)
   have o22:=o21.ext hx22
   have hC22:=hC21.ext hx22
   refine XR.mk (fun c=>c=g∨w8.heap.size≤c) ?_
   have hXK:∀ b,w5.heap.size≤b→b<w6.heap.size→¬(b=g∨w8.heap.size≤b):=fun b h1 h2=>by omega
   refine zcP zcu ?_
   refine zdo zfm (u:=vr) (fun j v hj=>?_) (by omega) ?_
   · have:=hB22.range 2 vr rfl
     match j,hj with
     | 0,hj=>simp at hj;subst hj;simpa using this
     | j+1,hj=>simp at hj
   obtain ⟨p53,hp53,hl53⟩:=zo8 (X:=fun c=>c=g∨w8.heap.size≤c) (K:=fun v=>L[k].size≤maxLen∧v=.string L[k]) hK22 hprl.symm hk hXK fun h=>⟨h,rfl⟩
   refine zl9 hp53 ?_
   obtain ⟨v54,hv54,hS54,rfl⟩:=hl53
   refine RDX.mk _ hv54 ?_
   have hd1:∀ w':World,(Instr.sliceAt 24 (.slice a10 np cap10) (some (.int .i64 1)) none none).run Tryz.prog w'=.ok (.slice (if cap10=1 then a10 else a10.map (·.add (1*Rep.size ByteArray))) (np-1) (cap10-1)) w':=fun w'=>by
     obtain ⟨a',cap',Fi',xs',hv',z1,z2,_⟩:=zct hK22.is
     simp only [Value.slice.injEq] at hv'
     obtain ⟨rfl,_,rfl⟩:=hv'
     have hb:(Instr.sliceBounds true np cap10 (some (.int .i64 1)) none none).run Tryz.prog w'=.ok (1,np,cap10) w':=by
       have h1:(1:Int)≤(np:Int):=by omega
       simp [Instr.sliceBounds,Instr.sliceBound,asIntOf,h1]
     simp [Instr.sliceAt,Instr.slice,run_underlying u24,hb,zaE ty9]
     rfl
   refine zl9 hd1 ?_
   have hK1:IsK w5.heap.size w6.heap.size w22 (.slice (if cap10=1 then a10 else a10.map (·.add (1*Rep.size ByteArray))) (np-1) (cap10-1)) (L.drop 1):=by
     have:=IsK.drop (l:=L) (k:=1) (by rw [hprl];exact hK22) (by omega)
     rwa [hprl] at this
   obtain ⟨F,hMF,hF⟩:=o22
   refine (znZ _ hC22 hMF (fun h=>by have:=hF g h;omega) (fun c hc=>by have:=hF c hc;omega) hK1 (by omega) (fun c hc=>by have:=hF c hc;omega) hp0 (by rw [List.length_drop];omega)).mono ?_
   rintro r59 w23 ⟨h59,hc23,hC23,F',hM23,hF'⟩
   rw [h59]
   have hs23:=hc23.size
   refine ⟨hc23.toX fun c hc=>?_,?_⟩
   · rcases List.mem_cons.1 hc with rfl | hc
     · exact .inl rfl
     exact .inr (hF c hc).1
   have hu23:UpG g w8.heap.size w22 w23:=hc23.upG fun c hc=>(hF c hc).1
   have o23:OwnI w8.heap.size w22.heap.size w23 v21 (zcE bs (L.drop 1) k s1).1:=⟨F',hM23,fun c hc=>⟨(hF c (hF' c hc)).1,hMF.lt c (hF' c hc)⟩⟩
   obtain ⟨a21,c21,rfl⟩:=zd9 o23
   refine zo5 (fun w'=>zmN) ?_
   have o60:=zn3 hS54 o23
   have hB23:=hB22.upG hu23 (by omega) (by omega)
   have r23:=r22.upG hu23 (by omega) (by omega)
   refine zi1 (α:=DProc) zlO zjP zrD zra (by decide) r23 (by omega) o60 (by omega) (by omega) (by rw [zak];omega) (by omega) (fun v62 w24 hc24 r24'=>?_) fun s' w' hx' h'=>⟨hx'.toX,h'⟩
   have hs24:=hc24.size
   refine zcP zcu ?_
   have hB24:=hB23.chgI hc24 (by omega)
   refine zcp (α:=List DProc) zfm rfl rfl hB24 (by simp) r24'.own fun w25 hc25 hB25=>?_
   have hs25:=hc25.size
   refine zal (by omega) ?_
   have hu25:UpG g w6.heap.size w8 w24:=((hu22.trans hu23).mono (by omega)).trans (hc24.upG (by omega))
   refine ⟨m-1,by omega,k+1,by omega,rfl,ps++[⟨L[k],(zcE bs (L.drop 1) k s1).1⟩],(zcE bs (L.drop 1) k s1).2,v62,w24.heap.size,by omega,by simp [hps],by rw [hdr];simp,?_,?_,hB25,?_,?_,?_,r24'.chg hc25 (by omega),by omega,by omega,?_⟩
   · exact (hC23.chg hc24 (by omega) (by omega)).chg hc25 (by omega) (by omega)
   · have h1:ChgI g (g+1) w w23:=hc8.trans ((hu22.trans hu23).toI (Nat.le_refl _))
     exact ChgI.out (ChgI.out h1 hc24 (by omega)) hc25 (by omega)
   · exact (o7.upG hu25 (by omega) (by omega)).chg hc25 (by omega)
   · exact (o8.upG hu25 (by omega) (by omega)).chg hc25 (by omega)
   · exact (hK8.upG hu25 (Nat.le_refl _) (by omega)).chgF hc25.toC (by simp;omega)
   exact (hB18.upG hu25 (by omega) (by omega)).chgI hc25 (by omega)
 have hk:k=L.length:=by omega
 subst hk
 rw [List.drop_length,zba] at hdr
 simp only [List.append_nil] at hdr
 have hpe:zch bs s=(⟨glb,lks,ps⟩,s1):=by
   unfold zch
   rw [←hL,hdr]
 rw [hpe]
 refine zdb hB8 zeD ?_
 have ost:OwnI w1.heap.size w8.heap.size w8 (.agg #[.slice a7 glb.length cap7,.slice a8 lks.length cap8,vr]) (⟨glb,lks,ps⟩:DProg):=
   zkb (l0:=w1.heap.size) (h0:=w2.heap.size) (l1:=w2.heap.size) (h1:=w3.heap.size) (l2:=w6.heap.size) (h2:=hi) o7 o8 r8.own (by omega) (by omega) (by omega) (by omega) (by omega) (by omega)
 refine za7 zeD rfl hB18 rfl ost fun w9 hc9 hB9=>?_
 have hs9:=hc9.size
 refine zdc hB9 zeD ?_
 exact ⟨ChgI.out hc8 hc9 (Nat.le_refl _),hC8.chg hc9 (by omega) (by omega),(ost.chg hc9 (by omega)).mono (by omega) (by omega)⟩
theorem CodeR.f {c:DCode} (h:CodeR c):EntF c:=h.2.1.f h.1.procs8.2
def F105 (a0 a1:Value) (w:World) (R:VW):Prop:=
 oP (Instr.box 28 a0) w fun x2 w=>
 rB .geq 3 T0 U0 a1 (iV 0) w fun x6=>
 BR x6
 (rF 28 x2 4 w fun x9=>
 rL 26 x9 w fun x10=>
 rN 26 3 x10 w fun x11=>
 rC a1 x11 w fun x12=>
 R x12 w)
 (R (Value.bool false) w)
def cfg105:Cfg:=⟨extL,[],[],[],[],[],[]⟩
theorem F105_call {a0 a1:Value} {w:World} {R:VW} (h:F105 a0 a1 w R):cL 105 [a0,a1] w R:=co (g:=cfg105) Tryz.func105 (by kernel_rfl) (by kernel_rfl) (by kernel_rfl) h
theorem zgA {w:World} {v0:Value} {W0:World} {c:DCode} {a:Int}  (h0:Is W0 v0 c) (e0:Ext W0 w)  :
   CALL Tryz.prog 105 [v0,.int .i64 a] w fun r w'=>Ext w w'∧(r=.bool (decide (0≤a∧a<c.ins.length))):=by
 refine F105_call ?_
 unfold F105
 refine zap zcx rfl h0 e0 fun w1_ hx1_ hA2 hV2=>?_
 refine zbP ?_
 refine br (fun c1=>?_) (fun c1=>?_)
 · refine zaa zbL ?_
   refine zab zeX (zaz hA2) (Ext.refl w1_) fun v10 h10=>?_
   have hln11:=zaf h10
   refine zae u26 h10 ?_
   refine zai ?_
   refine ⟨hx1_,?_⟩
   simp [c1]
 refine ⟨hx1_,?_⟩
 simp [c1]
def F208 (a0 a1:Value) (w:World) (R:VW):Prop:=
 oP (Instr.box 28 a0) w fun x2 w=>
 LOOPI [5] [(iV 0)] w fun u2 w next2=>
 rA (u2 5) (iV 1) w fun x7=>
 rF 28 x2 3 w fun x8=>
 rL 25 x8 w fun x9=>
 rN 25 3 x9 w fun x10=>
 rC x7 x10 w fun x11=>
 BR x11
 (rF 28 x2 3 w fun x13=>
 rL 25 x13 w fun x14=>
 rA (u2 5) (iV 1) w fun x16=>
 rX 25 x14 x16 w fun x17=>
 rL 3 x17 w fun x18=>
 rB .leq 3 T0 T0 x18 a1 w fun x20=>
 BR x20
 (rA (u2 5) (iV 1) w fun x23=>
 next2 [x23] w)
 (R (u2 5) w))
 (R (u2 5) w)
def cfg208:Cfg:=⟨extL,[],[(2,16777184,[5])],[],[],[],[]⟩
theorem F208_call {a0 a1:Value} {w:World} {R:VW} (h:F208 a0 a1 w R):cL 208 [a0,a1] w R:=co (g:=cfg208) Tryz.func208 (by kernel_rfl) (by kernel_rfl) (by kernel_rfl) h
theorem zod {w:World} {v0:Value} {W0:World} {c:DCode} {a:Int}  (h0:Is W0 v0 c) (e0:Ext W0 w) (hc:CodeR c) (ha:0≤a) (ha2:a<c.ins.length) :
   CALL Tryz.prog 208 [v0,.int .i64 a] w fun r w'=>Ext w w'∧(r=.int .i64 (zaD c a)):=by
 refine F208_call ?_
 unfold F208
 have hf:=hc.f
 have h8:=hc.1.procs8
 have hl:=hf.len
 refine zap zcx rfl h0 e0 fun w1_ hx1_ hA2 hV2=>?_
 refine zaF (c.entry.length-1) (fun k us w'=>us=[.int .i64 (k:Int)]∧Ext w1_ w'∧(en c k≤a)) (0) (by omega) ⟨by simp,Ext.refl w1_,by rw [hf.zero];exact ha⟩ ?_
 rintro k m2 uu2 w2_ hk2 ⟨hu,hx2_,hinv⟩
 simp only [List.map_cons,List.map_nil,List.cons.injEq,and_true] at hu
 try rw [hu]
 try clear hu
 refine zal (by omega) ?_
 refine zaa zbe ?_
 refine zab zaJ (zao hA2) hx2_ fun v9 h9=>?_
 have hln10:=zaf h9
 refine zae u25 h9 ?_
 refine zai ?_
 refine br (fun c1=>?_) (fun c1=>?_)
 · refine zaa zbe ?_
   refine zab zaJ (zao hA2) hx2_ fun v14 h14=>?_
   refine zal (by omega) ?_
   refine zad u25 ty3 h14 (by omega) fun b17 o17 h17=>?_
   refine zac ty3 h17 hx2_ fun hI18=>?_
   refine zdv ?_
   refine br (fun c2=>?_) (fun c2=>?_)
   · refine zal (by omega) ?_
     refine ⟨m2-1,by omega,k+1,by omega,by simp,hx2_,?_⟩
     rwa [zbD] at c2
   refine ⟨(hx1_.trans hx2_),?_⟩
   rw [zbD] at c2
   rw [hf.proc (i:=k) (by omega) hinv (by rw [hf.step (by omega)];omega)]
 refine ⟨(hx1_.trans hx2_),?_⟩
 rw [hf.proc (i:=k) (by omega) hinv (by rw [hf.last (by omega)];omega)]
def st (l:List Int) (i:Nat):Int:=l.getD i 0
theorem zgQ {l:List Int} {i:Nat} (h:i<l.length):l[i]=st l i:=by unfold st;rw [List.getD_eq_getElem?_getD,List.getElem?_eq_getElem h];rfl
def zcd (c:DCode) (l:List Int):Prop:=l.length≤8∧(∀ i,i<l.length→0≤st l i∧st l i<c.ins.length) ∧
 ∀ i,i<l.length-1→(zbG c (st l i).toNat).op=4∧zaD c (st l (i+1))=(zbG c (st l i).toNat).arg
instance (c:DCode) (l:List Int):Decidable (zcd c l):=by unfold zcd;infer_instance
def F137 (a0 a1:Value) (w:World) (R:VW):Prop:=
 oP (Instr.box 28 a0) w fun x2 w=>
 rN 25 3 a1 w fun x8=>
 rB .gtr 3 T0 U0 x8 (iV 8) w fun x9=>
 BR x9
 (R (Value.bool false) w)
 (rN 25 3 a1 w fun x11=>
 LOOPI [12] [(iV 0)] w fun u4 w next4=>
 rC (u4 12) x11 w fun x13=>
 BR x13
 (rX 25 a1 (u4 12) w fun x15=>
 rL 3 x15 w fun x16=>
 rL 28 x2 w fun x17=>
 cL 105 [x17,x16] w fun x19 w=>
 rD (Op.unary .not x19) w fun x20=>
 BR x20
 (R (Value.bool false) w)
 (rA (u4 12) (iV 1) w fun x22=>
 rN 25 3 a1 w fun x24=>
 rB .eql 3 T0 T0 x22 x24 w fun x25=>
 BR x25
 (R (Value.bool true) w)
 ((fun w=>rF 28 x2 4 w fun x26=>
 rL 26 x26 w fun x27=>
 rX 26 x27 x16 w fun x29=>
 rF 77 x29 0 w fun x30=>
 rL 3 x30 w fun x31=>
 rB .neq 3 T0 U0 x31 (iV 4) w fun x32=>
 BR x32
 (R (Value.bool false) w)
 (rL 28 x2 w fun x34=>
 rA (u4 12) (iV 1) w fun x37=>
 rX 25 a1 x37 w fun x38=>
 rL 3 x38 w fun x39=>
 cL 105 [x34,x39] w fun x40 w=>
 rD (Op.unary .not x40) w fun x41=>
 BR x41
 (R (Value.bool false) w)
 (rL 28 x2 w fun x44=>
 rA (u4 12) (iV 1) w fun x47=>
 rX 25 a1 x47 w fun x48=>
 rL 3 x48 w fun x49=>
 rF 28 x2 4 w fun x51=>
 rL 26 x51 w fun x52=>
 rX 26 x52 x16 w fun x54=>
 rF 77 x54 1 w fun x55=>
 rL 3 x55 w fun x56=>
 (fun w_=>cL 208 [x44,x49] w_ fun x50 w=>
 Ext w_ w ∧
 rB .neq 3 T0 T0 x50 x56 w fun x57=>
 BR x57
 (R (Value.bool false) w)
 (rA (u4 12) (iV 1) w fun x59=>
 next4 [x59] w)) w))) (World.drew1 w))))
 (R (Value.bool true) w))
def cfg137:Cfg:=⟨extL,[],[(4,1152921504606842992,[12])],[(9,[0,1,2,3,4,5,6,7,8,9,10,11,12,13,14,15,16,17,18,19,20,21,22,23,25,26,27,28,29,30,24,31,32],16777216)],[],[],[]⟩
theorem F137_call {a0 a1:Value} {w:World} {R:VW} (h:F137 a0 a1 w R):cL 137 [a0,a1] w R:=co (g:=cfg137) Tryz.func137 (by kernel_rfl) (by kernel_rfl) (by kernel_rfl) h
theorem zjj {w:World} {v0:Value} {W0:World} {c:DCode} {v1:Value} {W1:World} {l:(List Int)}  (h0:Is W0 v0 c) (e0:Ext W0 w) (h1:Is W1 v1 l) (e1:Ext W1 w) (hc:CodeR c) :
   CALL Tryz.prog 137 [v0,v1] w fun r w'=>Ext w w'∧(r=.bool (decide (zcd c l))):=by
 refine F137_call ?_
 unfold F137
 have hln:=zaf h1
 refine zap zcx rfl h0 e0 fun w1_ hx1_ hA2 hV2=>?_
 have hln8:=zaf h1
 refine zae u25 h1 ?_
 refine zci ?_
 refine br (fun c1=>?_) (fun c1=>?_)
 · refine ⟨hx1_,?_⟩
   have:¬zcd c l:=fun h=>by have:=h.1;omega
   simp only [this,decide_false]
 have hln11:=zaf h1
 refine zae u25 h1 ?_
 refine zaF (l.length) (fun k us w'=>us=[.int .i64 (k:Int)]∧Ext w1_ w'∧(k≤l.length-1∧(∀ i,i<k→0≤st l i∧st l i<c.ins.length)∧∀ i,i<k→(zbG c (st l i).toNat).op=4∧zaD c (st l (i+1))=(zbG c (st l i).toNat).arg)) (0) (by omega) ⟨by simp,Ext.refl w1_,by omega,fun i h=>by omega,fun i h=>by omega⟩ ?_
 rintro k m4 uu4 w2_ hk4 ⟨hu,hx2_,hkl,hpl,hop⟩
 simp only [List.map_cons,List.map_nil,List.cons.injEq,and_true] at hu
 try rw [hu]
 try clear hu
 refine zai ?_
 refine br (fun c2=>?_) (fun c2=>?_)
 · refine zad u25 ty3 h1 (by omega) fun b15 o15 h15=>?_
   refine zac ty3 h15 (e1.trans (hx1_.trans hx2_)) fun hI16=>?_
   rw [zgQ]
   refine zaB hV2 hx2_ ?_
   refine (zgA h0 (e0.trans (hx1_.trans hx2_))).mono ?_
   rintro _ w3_ ⟨hx3_,rfl⟩
   refine zau ?_
   refine br (fun c3=>?_) (fun c3=>?_)
   · refine ⟨(hx1_.trans (hx2_.trans hx3_)),?_⟩
     have:¬zcd c l:=fun h=>c3 (by have:=h.2.1 k (by omega);omega)
     simp only [this,decide_false]
   refine zal (by omega) ?_
   have hln24:=zaf h1
   refine zae u25 h1 ?_
   refine zag ?_
   refine br (fun c4=>?_) (fun c4=>?_)
   · refine ⟨(hx1_.trans (hx2_.trans hx3_)),?_⟩
     have:zcd c l:=⟨by omega,fun i hi=>by
         by_cases e:i=k
         · subst e;omega
         exact hpl i (by omega),fun i hi=>hop i (by omega)⟩
     simp only [this,decide_true]
   have hx4_:=zah w3_
   refine zaa zbL ?_
   refine zab zeX (zaz hA2) (hx2_.trans (hx3_.trans hx4_)) fun v27 h27=>?_
   have hst1:0≤st l k∧st l k<c.ins.length:=by omega
   refine zas u26 zga h27 (by omega) (by omega) fun b29 o29 h29=>?_
   refine zaa zck ?_
   refine zac ty3 (zaT h29) (hx2_.trans (hx3_.trans hx4_)) fun hI31=>?_
   refine zaY ?_
   refine br (fun c5=>?_) (fun c5=>?_)
   · refine ⟨(hx1_.trans (hx2_.trans (hx3_.trans hx4_))),?_⟩
     rw [zbk] at c5
     have:¬zcd c l:=fun h=>c5 (h.2.2 k (by omega)).1
     simp only [this,decide_false]
   refine zaB hV2 (hx2_.trans (hx3_.trans hx4_)) ?_
   refine zal (by omega) ?_
   refine zad u25 ty3 h1 (by omega) fun b38 o38 h38=>?_
   refine zac ty3 h38 (e1.trans (hx1_.trans (hx2_.trans (hx3_.trans hx4_)))) fun hI39=>?_
   refine (zgA h0 (e0.trans (hx1_.trans (hx2_.trans (hx3_.trans hx4_))))).mono ?_
   rintro _ w5_ ⟨hx5_,rfl⟩
   refine zau ?_
   refine br (fun c6=>?_) (fun c6=>?_)
   · refine ⟨(hx1_.trans (hx2_.trans (hx3_.trans (hx4_.trans hx5_)))),?_⟩
     rw [zgQ] at c6
     have:¬zcd c l:=fun h=>c6 (by have:=h.2.1 (k+1) (by omega);omega)
     simp only [this,decide_false]
   refine zaB hV2 (hx2_.trans (hx3_.trans (hx4_.trans hx5_))) ?_
   refine zal (by omega) ?_
   refine zad u25 ty3 h1 (by omega) fun b48 o48 h48=>?_
   refine zac ty3 h48 (e1.trans (hx1_.trans (hx2_.trans (hx3_.trans (hx4_.trans hx5_))))) fun hI49=>?_
   refine zaa zbL ?_
   refine zab zeX (zaz hA2) (hx2_.trans (hx3_.trans (hx4_.trans hx5_))) fun v52 h52=>?_
   refine zas u26 zga h52 (by omega) (by omega) fun b54 o54 h54=>?_
   refine zaa zcH ?_
   refine zac ty3 (za9 h54) (hx2_.trans (hx3_.trans (hx4_.trans hx5_))) fun hI56=>?_
   rw [zgQ] at c6
   rw [zgQ]
   refine (zod h0 (e0.trans (hx1_.trans (hx2_.trans (hx3_.trans (hx4_.trans hx5_))))) (by assumption) (by omega) (by omega)).mono ?_
   rintro _ w6_ ⟨hx6_,rfl⟩
   refine ⟨hx6_,?_⟩
   refine zaY ?_
   refine br (fun c7=>?_) (fun c7=>?_)
   · refine ⟨(hx1_.trans (hx2_.trans (hx3_.trans (hx4_.trans (hx5_.trans hx6_))))),?_⟩
     rw [zbk] at c7
     have:¬zcd c l:=fun h=>c7 (h.2.2 k (by omega)).2
     simp only [this,decide_false]
   refine zal (by omega) ?_
   refine ⟨m4-1,by omega,k+1,by omega,by simp,(hx2_.trans (hx3_.trans (hx4_.trans (hx5_.trans hx6_)))),?_⟩
   rw [zbk] at c7 c5
   exact ⟨by omega,zel hpl hst1,zel hop ⟨Decidable.not_not.1 c5,Decidable.not_not.1 c7⟩⟩
 refine ⟨(hx1_.trans hx2_),?_⟩
 have:zcd c l:=⟨by omega,fun i hi=>hpl i (by omega),fun i hi=>hop i (by omega)⟩
 simp only [this,decide_true]
def zaK (c:DCode) (s:DState):Prop:=s.vars.length=c.globals.length∧s.owner.length=c.locks.length∧(1≤s.stacks.length∧s.stacks.length≤6)∧(∀ v∈s.vars,0≤v∧v≤999) ∧
 (∀ o∈s.owner,-1≤o∧o<s.stacks.length)∧∀ l∈s.stacks,zcd c l
instance (c:DCode) (s:DState):Decidable (zaK c s):=by unfold zaK;infer_instance
theorem zjk {α:Type} {P:α→Prop} {l:List α} {k:Nat} (hk:k<l.length) (h:∀ x∈l.take k,P x) (hp:P l[k]):∀ x∈l.take (k+1),P x:=by
 intro x hx
 rw [List.take_succ_eq_append_getElem hk] at hx
 rcases List.mem_append.1 hx with hx | hx
 · exact h x hx
 simp only [List.mem_cons,List.not_mem_nil,or_false] at hx
 subst hx;exact hp
theorem zlm {α:Type} {P:α→Prop} {l:List α} {k:Nat} (hk:l.length≤k) (h:∀ x∈l.take k,P x):∀ x∈l,P x:=by
 rwa [List.take_of_length_le hk] at h
def F76 (a0 a1:Value) (w:World) (R:VW):Prop:=
 oP (Instr.box 28 a0) w fun x2 w=>
 oP (Instr.box 33 a1) w fun x3 w=>
 rF 33 x3 2 w fun x12=>
 rL 31 x12 w fun x13=>
 rN 31 3 x13 w fun x14=>
 rF 33 x3 0 w fun x15=>
 rL 25 x15 w fun x16=>
 rN 25 3 x16 w fun x17=>
 rF 28 x2 0 w fun x18=>
 rL 24 x18 w fun x19=>
 rN 24 3 x19 w fun x20=>
 rB .neq 3 T0 T0 x17 x20 w fun x21=>
 BR x21
 (R (Value.bool false) w)
 (rF 33 x3 1 w fun x23=>
 rL 25 x23 w fun x24=>
 rN 25 3 x24 w fun x25=>
 rF 28 x2 1 w fun x26=>
 rL 24 x26 w fun x27=>
 rN 24 3 x27 w fun x28=>
 rB .neq 3 T0 T0 x25 x28 w fun x29=>
 BR x29
 (R (Value.bool false) w)
 (rB .lss 3 T0 U0 x14 (iV 1) w fun x33=>
 BR x33
 (R (Value.bool false) w)
 (rB .gtr 3 T0 U0 x14 (iV 6) w fun x37=>
 BR x37
 (R (Value.bool false) w)
 (rF 33 x3 0 w fun x39=>
 rL 25 x39 w fun x40=>
 rN 25 3 x40 w fun x41=>
 LOOPI [42] [(iV 0)] w fun u5 w next5=>
 rC (u5 42) x41 w fun x43=>
 BR x43
 (rX 25 x40 (u5 42) w fun x44=>
 rL 3 x44 w fun x45=>
 rB .lss 3 T0 U0 x45 (iV 0) w fun x47=>
 BR x47
 (R (Value.bool false) w)
 (rB .gtr 3 T0 U0 x45 (iV 999) w fun x50=>
 BR x50
 (R (Value.bool false) w)
 (rA (u5 42) (iV 1) w fun x52=>
 next5 [x52] w)))
 (rF 33 x3 1 w fun x53=>
 rL 25 x53 w fun x54=>
 rN 25 3 x54 w fun x55=>
 LOOPI [56] [(iV 0)] w fun u11 w next11=>
 rC (u11 56) x55 w fun x57=>
 BR x57
 (rX 25 x54 (u11 56) w fun x58=>
 rL 3 x58 w fun x59=>
 rB .lss 3 T0 U0 x59 (iV (-1)) w fun x61=>
 BR x61
 (R (Value.bool false) w)
 (rB .geq 3 T0 T0 x59 x14 w fun x65=>
 BR x65
 (R (Value.bool false) w)
 (rA (u11 56) (iV 1) w fun x67=>
 next11 [x67] w)))
 (rF 33 x3 2 w fun x68=>
 rL 31 x68 w fun x69=>
 rN 31 3 x69 w fun x70=>
 LOOPI [71] [(iV 0)] w fun u17 w next17=>
 rC (u17 71) x70 w fun x72=>
 BR x72
 (rX 31 x69 (u17 71) w fun x73=>
 rL 25 x73 w fun x74=>
 rL 28 x2 w fun x75=>
 cL 137 [x75,x74] w fun x77 w=>
 rD (Op.unary .not x77) w fun x78=>
 BR x78
 (R (Value.bool false) w)
 (rA (u17 71) (iV 1) w fun x79=>
 next17 [x79] w))
 (R (Value.bool true) w)))))))
def cfg76:Cfg:=⟨extL,[],[(5,9002801208230032,[42]),(11,295075847585314898448,[56]),(17,1206564636373194352101392,[71])],[],[],[],[]⟩
theorem F76_call {a0 a1:Value} {w:World} {R:VW} (h:F76 a0 a1 w R):cL 76 [a0,a1] w R:=co (g:=cfg76) Tryz.func76 (by kernel_rfl) (by kernel_rfl) (by kernel_rfl) h
theorem zjl {w:World} {v0:Value} {W0:World} {c:DCode} {v1:Value} {W1:World} {s:DState}  (h0:Is W0 v0 c) (e0:Ext W0 w) (h1:Is W1 v1 s) (e1:Ext W1 w) (hc:CodeR c) :
   CALL Tryz.prog 76 [v0,v1] w fun r w'=>Ext w w'∧(r=.bool (decide (zaK c s))):=by
 refine F76_call ?_
 unfold F76
 refine zap zcx rfl h0 e0 fun w1_ hx1_ hA2 hV2=>?_
 refine zap zbf rfl h1 (e1.trans hx1_) fun w2_ hx2_ hA3 hV3=>?_
 refine zaa zaC ?_
 refine zab zc1 (zaq hA3) (Ext.refl w2_) fun v13 h13=>?_
 have hln14:=zaf h13
 refine zae u31 h13 ?_
 refine zaa zdh ?_
 refine zab zaJ (za2 hA3) (Ext.refl w2_) fun v16 h16=>?_
 have hln17:=zaf h16
 refine zae u25 h16 ?_
 refine zaa zc0 ?_
 refine zab zcJ (zaW hA2) hx2_ fun v19 h19=>?_
 have hln20:=zaf h19
 refine zae u24 h19 ?_
 refine zaY ?_
 refine br (fun c1=>?_) (fun c1=>?_)
 · refine ⟨(hx1_.trans hx2_),?_⟩
   have:¬zaK c s:=fun h=>by have:=h.1;omega
   simp only [this,decide_false]
 refine zaa zb5 ?_
 refine zab zaJ (zbc hA3) (Ext.refl w2_) fun v24 h24=>?_
 have hln25:=zaf h24
 refine zae u25 h24 ?_
 refine zaa zeC ?_
 refine zab zcJ (zbK hA2) hx2_ fun v27 h27=>?_
 have hln28:=zaf h27
 refine zae u24 h27 ?_
 refine zaY ?_
 refine br (fun c2=>?_) (fun c2=>?_)
 · refine ⟨(hx1_.trans hx2_),?_⟩
   have:¬zaK c s:=fun h=>by have:=h.2.1;omega
   simp only [this,decide_false]
 refine zai ?_
 refine br (fun c3=>?_) (fun c3=>?_)
 · refine ⟨(hx1_.trans hx2_),?_⟩
   have:¬zaK c s:=fun h=>by have:=h.2.2.1;omega
   simp only [this,decide_false]
 refine zci ?_
 refine br (fun c4=>?_) (fun c4=>?_)
 · refine ⟨(hx1_.trans hx2_),?_⟩
   have:¬zaK c s:=fun h=>by have:=h.2.2.1;omega
   simp only [this,decide_false]
 refine zaa zdh ?_
 refine zab zaJ (za2 hA3) (Ext.refl w2_) fun v40 h40=>?_
 have hln41:=zaf h40
 refine zae u25 h40 ?_
 refine zaF (s.vars.length) (fun k us w'=>us=[.int .i64 (k:Int)]∧Ext w2_ w'∧(∀ v∈s.vars.take k,0≤v∧v≤999)) (0) (by omega) ⟨by simp,Ext.refl w2_,by simp⟩ ?_
 rintro k m5 uu5 w3_ hk5 ⟨hu,hx3_,hv1⟩
 simp only [List.map_cons,List.map_nil,List.cons.injEq,and_true] at hu
 try rw [hu]
 try clear hu
 refine zai ?_
 refine br (fun c5=>?_) (fun c5=>?_)
 · refine zad u25 ty3 h40 (by omega) fun b44 o44 h44=>?_
   refine zac ty3 h44 hx3_ fun hI45=>?_
   refine zai ?_
   refine br (fun c6=>?_) (fun c6=>?_)
   · refine ⟨(hx1_.trans (hx2_.trans hx3_)),?_⟩
     have:¬zaK c s:=fun h=>by have:=h.2.2.2.1 _ (List.getElem_mem (n:=k) (by omega));omega
     simp only [this,decide_false]
   refine zci ?_
   refine br (fun c7=>?_) (fun c7=>?_)
   · refine ⟨(hx1_.trans (hx2_.trans hx3_)),?_⟩
     have:¬zaK c s:=fun h=>by have:=h.2.2.2.1 _ (List.getElem_mem (n:=k) (by omega));omega
     simp only [this,decide_false]
   refine zal (by omega) ?_
   refine ⟨m5-1,by omega,k+1,by omega,by simp,hx3_,?_⟩
   exact zjk (by omega) hv1 (by omega)
 refine zaa zb5 ?_
 refine zab zaJ (zbc hA3) hx3_ fun v54 h54=>?_
 have hln55:=zaf h54
 refine zae u25 h54 ?_
 refine zaF (s.owner.length) (fun q us w'=>us=[.int .i64 (q:Int)]∧Ext w3_ w'∧(∀ o∈s.owner.take q,-1≤o∧o<s.stacks.length)) (0) (by omega) ⟨by simp,Ext.refl w3_,by simp⟩ ?_
 rintro q m11 uu11 w4_ hk11 ⟨hu,hx4_,hv2⟩
 simp only [List.map_cons,List.map_nil,List.cons.injEq,and_true] at hu
 try rw [hu]
 try clear hu
 refine zai ?_
 refine br (fun c8=>?_) (fun c8=>?_)
 · refine zad u25 ty3 h54 (by omega) fun b58 o58 h58=>?_
   refine zac ty3 h58 (hx3_.trans hx4_) fun hI59=>?_
   refine zai ?_
   refine br (fun c9=>?_) (fun c9=>?_)
   · refine ⟨(hx1_.trans (hx2_.trans (hx3_.trans hx4_))),?_⟩
     have:¬zaK c s:=fun h=>by have:=h.2.2.2.2.1 _ (List.getElem_mem (n:=q) (by omega));omega
     simp only [this,decide_false]
   refine zbP ?_
   refine br (fun c10=>?_) (fun c10=>?_)
   · refine ⟨(hx1_.trans (hx2_.trans (hx3_.trans hx4_))),?_⟩
     have:¬zaK c s:=fun h=>by have:=h.2.2.2.2.1 _ (List.getElem_mem (n:=q) (by omega));omega
     simp only [this,decide_false]
   refine zal (by omega) ?_
   refine ⟨m11-1,by omega,q+1,by omega,by simp,hx4_,?_⟩
   exact zjk (by omega) hv2 (by omega)
 refine zaa zaC ?_
 refine zab zc1 (zaq hA3) (hx3_.trans hx4_) fun v69 h69=>?_
 have hln70:=zaf h69
 refine zae u31 h69 ?_
 refine zaF (s.stacks.length) (fun p us w'=>us=[.int .i64 (p:Int)]∧Ext w4_ w'∧(∀ l∈s.stacks.take p,zcd c l)) (0) (by omega) ⟨by simp,Ext.refl w4_,by simp⟩ ?_
 rintro p m17 uu17 w5_ hk17 ⟨hu,hx5_,hv3⟩
 simp only [List.map_cons,List.map_nil,List.cons.injEq,and_true] at hu
 try rw [hu]
 try clear hu
 refine zai ?_
 refine br (fun c11=>?_) (fun c11=>?_)
 · refine zad u31 zaJ h69 (by omega) fun b73 o73 h73=>?_
   refine zab zaJ h73 (hx3_.trans (hx4_.trans hx5_)) fun v74 h74=>?_
   refine zaB hV2 (hx2_.trans (hx3_.trans (hx4_.trans hx5_))) ?_
   refine (zjj h0 (e0.trans (hx1_.trans (hx2_.trans (hx3_.trans (hx4_.trans hx5_))))) h74 (hx3_.trans (hx4_.trans hx5_)) (by assumption)).mono ?_
   rintro _ w6_ ⟨hx6_,rfl⟩
   refine zau ?_
   refine br (fun c12=>?_) (fun c12=>?_)
   · refine ⟨(hx1_.trans (hx2_.trans (hx3_.trans (hx4_.trans (hx5_.trans hx6_))))),?_⟩
     have:¬zaK c s:=fun h=>c12 (h.2.2.2.2.2 _ (List.getElem_mem _))
     simp only [this,decide_false]
   refine zal (by omega) ?_
   refine ⟨m17-1,by omega,p+1,by omega,by simp,(hx5_.trans hx6_),?_⟩
   exact zjk (by omega) hv3 (Decidable.not_not.1 c12)
 refine ⟨(hx1_.trans (hx2_.trans (hx3_.trans (hx4_.trans hx5_)))),?_⟩
 have:zaK c s:=⟨by omega,by omega,by omega,zlm (by omega) hv1,zlm (by omega) hv2,zlm (by omega) hv3⟩
 simp only [this,decide_true]
def F14 (a0 a1:Value) (w:World) (R:VW):Prop:=
 oP (Instr.box 28 a0) w fun x2 w=>
 oP (Instr.box 33 a1) w fun x3 w=>
 rL 28 x2 w fun x5=>
 cL 72 [x5] w fun x6 w=>
 BR x6
 (rL 28 x2 w fun x8=>
 rL 33 x3 w fun x9=>
 cL 76 [x8,x9] w fun x10 w=>
 R x10 w)
 (R (Value.bool false) w)
def cfg14:Cfg:=⟨extL,[],[],[],[],[],[]⟩
theorem F14_call {a0 a1:Value} {w:World} {R:VW} (h:F14 a0 a1 w R):cL 14 [a0,a1] w R:=co (g:=cfg14) Tryz.func14 (by kernel_rfl) (by kernel_rfl) (by kernel_rfl) h
theorem zff {w:World} {v0:Value} {W0:World} {c:DCode} {v1:Value} {W1:World} {s:DState}  (h0:Is W0 v0 c) (e0:Ext W0 w) (h1:Is W1 v1 s) (e1:Ext W1 w)  :
   CALL Tryz.prog 14 [v0,v1] w fun r w'=>Ext w w'∧(r=.bool (decide (CodeR c∧zaK c s))):=by
 refine F14_call ?_
 unfold F14
 refine zap zcx rfl h0 e0 fun w1_ hx1_ hA2 hV2=>?_
 refine zap zbf rfl h1 (e1.trans hx1_) fun w2_ hx2_ hA3 hV3=>?_
 refine zaB hV2 hx2_ ?_
 refine (zem h0 (e0.trans (hx1_.trans hx2_))).mono ?_
 rintro _ w3_ ⟨hx3_,rfl⟩
 refine br (fun c1=>?_) (fun c1=>?_)
 · refine zaB hV2 (hx2_.trans hx3_) ?_
   refine zaB hV3 hx3_ ?_
   refine (zjl h0 (e0.trans (hx1_.trans (hx2_.trans hx3_))) h1 (e1.trans (hx1_.trans (hx2_.trans hx3_))) (by assumption)).mono ?_
   rintro _ w4_ ⟨hx4_,rfl⟩
   refine ⟨(hx1_.trans (hx2_.trans (hx3_.trans hx4_))),?_⟩
   simp [c1]
 refine ⟨(hx1_.trans (hx2_.trans hx3_)),?_⟩
 simp [c1]
def zpB (s:DState):Prop:=∀ x∈s.stacks,x=[]
instance (s:DState):Decidable (zpB s):=inferInstanceAs (Decidable (∀ x∈s.stacks,x=[]))
def F91 (a0 a1:Value) (w:World) (R:VW):Prop:=
 rN 25 3 a0 w fun x7=>
 rN 25 3 a1 w fun x9=>
 rB .neq 3 T0 T0 x7 x9 w fun x10=>
 BR x10
 (R (Value.bool false) w)
 (LOOPI [5] [(iV 0)] w fun u4 w next4=>
 rN 25 3 a0 w fun x13=>
 rC (u4 5) x13 w fun x14=>
 BR x14
 ((fun w=>rX 25 a0 (u4 5) w fun x19=>
 rL 3 x19 w fun x20=>
 rX 25 a1 (u4 5) w fun x23=>
 rL 3 x23 w fun x24=>
 rB .neq 3 T0 T0 x20 x24 w fun x25=>
 BR x25
 (R (Value.bool false) w)
 (rA (u4 5) (iV 1) w fun x16=>
 next4 [x16] w)) (World.drew1 w))
 (R (Value.bool true) w))
def cfg91:Cfg:=⟨extL,[],[(4,67106864,[5])],[(6,[0,1,2,3,4,5,6,7,8],0)],[],[],[]⟩
theorem F91_call {a0 a1:Value} {w:World} {R:VW} (h:F91 a0 a1 w R):cL 91 [a0,a1] w R:=co (g:=cfg91) Tryz.func91 (by kernel_rfl) (by kernel_rfl) (by kernel_rfl) h
theorem zgB {w:World} {v0:Value} {W0:World} {l1:(List Int)} {v1:Value} {W1:World} {l2:(List Int)}  (h0:Is W0 v0 l1) (e0:Ext W0 w) (h1:Is W1 v1 l2) (e1:Ext W1 w)  :
   CALL Tryz.prog 91 [v0,v1] w fun r w'=>Ext w w'∧(r=.bool (decide (l1=l2))):=by
 refine F91_call ?_
 unfold F91
 have hln7:=zaf h0
 refine zae u25 h0 ?_
 have hln9:=zaf h1
 refine zae u25 h1 ?_
 refine zaY ?_
 refine br (fun c1=>?_) (fun c1=>?_)
 · refine ⟨Ext.refl w,?_⟩
   have:l1≠l2:=fun e=>c1 (by rw [e])
   simp [this]
 refine zaF (l1.length) (fun k us w'=>us=[.int .i64 (k:Int)]∧Ext w w'∧(l1.take k=l2.take k)) (0) (by omega) ⟨by simp,Ext.refl w,by simp⟩ ?_
 rintro k m4 uu4 w1_ hk4 ⟨hu,hx1_,hinv⟩
 simp only [List.map_cons,List.map_nil,List.cons.injEq,and_true] at hu
 try rw [hu]
 try clear hu
 have hln13:=zaf h0
 refine zae u25 h0 ?_
 refine zai ?_
 refine br (fun c2=>?_) (fun c2=>?_)
 · have hx2_:=zah w1_
   refine zad u25 ty3 h0 (by omega) fun b19 o19 h19=>?_
   refine zac ty3 h19 (e0.trans (hx1_.trans hx2_)) fun hI20=>?_
   refine zad u25 ty3 h1 (by omega) fun b23 o23 h23=>?_
   refine zac ty3 h23 (e1.trans (hx1_.trans hx2_)) fun hI24=>?_
   refine zaY ?_
   refine br (fun c3=>?_) (fun c3=>?_)
   · refine ⟨(hx1_.trans hx2_),?_⟩
     have:l1≠l2:=fun e=>c3 (by subst e;rfl)
     simp [this]
   refine zal (by omega) ?_
   refine ⟨m4-1,by omega,k+1,by omega,by simp,(hx1_.trans hx2_),?_⟩
   rw [List.take_succ_eq_append_getElem (by omega),List.take_succ_eq_append_getElem (by omega),hinv,Decidable.not_not.1 c3]
 refine ⟨hx1_,?_⟩
 rw [List.take_of_length_le (by omega),List.take_of_length_le (by omega)] at hinv
 simp [hinv]
def F83 (a0 a1:Value) (w:World) (R:VW):Prop:=
 rN 25 3 a0 w fun x7=>
 rN 25 3 a1 w fun x9=>
 rB .neq 3 T0 T0 x7 x9 w fun x10=>
 BR x10
 (R (Value.bool false) w)
 (rN 25 3 a0 w fun x12=>
 LOOPI [13] [(iV 0)] w fun u4 w next4=>
 rC (u4 13) x12 w fun x14=>
 BR x14
 ((fun w=>rX 25 a0 (u4 13) w fun x18=>
 rL 3 x18 w fun x19=>
 rX 25 a1 (u4 13) w fun x22=>
 rL 3 x22 w fun x23=>
 rB .neq 3 T0 T0 x19 x23 w fun x24=>
 BR x24
 (R (Value.bool false) w)
 (rA (u4 13) (iV 1) w fun x25=>
 next4 [x25] w)) (World.drew1 w))
 (R (Value.bool true) w))
def cfg83:Cfg:=⟨extL,[],[(4,67100720,[13])],[(6,[0,1,2,3,4,5,6,7,8],0)],[],[],[]⟩
theorem F83_call {a0 a1:Value} {w:World} {R:VW} (h:F83 a0 a1 w R):cL 83 [a0,a1] w R:=co (g:=cfg83) Tryz.func83 (by kernel_rfl) (by kernel_rfl) (by kernel_rfl) h
theorem zfv {w:World} {v0:Value} {W0:World} {l1:(List Int)} {v1:Value} {W1:World} {l2:(List Int)}  (h0:Is W0 v0 l1) (e0:Ext W0 w) (h1:Is W1 v1 l2) (e1:Ext W1 w)  :
   CALL Tryz.prog 83 [v0,v1] w fun r w'=>Ext w w'∧(r=.bool (decide (l1=l2))):=by
 refine F83_call ?_
 unfold F83
 have hln7:=zaf h0
 refine zae u25 h0 ?_
 have hln9:=zaf h1
 refine zae u25 h1 ?_
 refine zaY ?_
 refine br (fun c1=>?_) (fun c1=>?_)
 · refine ⟨Ext.refl w,?_⟩
   have:l1≠l2:=fun e=>c1 (by rw [e])
   simp [this]
 have hln12:=zaf h0
 refine zae u25 h0 ?_
 refine zaF (l1.length) (fun k us w'=>us=[.int .i64 (k:Int)]∧Ext w w'∧(l1.take k=l2.take k)) (0) (by omega) ⟨by simp,Ext.refl w,by simp⟩ ?_
 rintro k m4 uu4 w1_ hk4 ⟨hu,hx1_,hinv⟩
 simp only [List.map_cons,List.map_nil,List.cons.injEq,and_true] at hu
 try rw [hu]
 try clear hu
 refine zai ?_
 refine br (fun c2=>?_) (fun c2=>?_)
 · have hx2_:=zah w1_
   refine zad u25 ty3 h0 (by omega) fun b18 o18 h18=>?_
   refine zac ty3 h18 (e0.trans (hx1_.trans hx2_)) fun hI19=>?_
   refine zad u25 ty3 h1 (by omega) fun b22 o22 h22=>?_
   refine zac ty3 h22 (e1.trans (hx1_.trans hx2_)) fun hI23=>?_
   refine zaY ?_
   refine br (fun c3=>?_) (fun c3=>?_)
   · refine ⟨(hx1_.trans hx2_),?_⟩
     have:l1≠l2:=fun e=>c3 (by subst e;rfl)
     simp [this]
   refine zal (by omega) ?_
   refine ⟨m4-1,by omega,k+1,by omega,by simp,(hx1_.trans hx2_),?_⟩
   rw [List.take_succ_eq_append_getElem (by omega),List.take_succ_eq_append_getElem (by omega),hinv,Decidable.not_not.1 c3]
 refine ⟨hx1_,?_⟩
 rw [List.take_of_length_le (by omega),List.take_of_length_le (by omega)] at hinv
 simp [hinv]
def F85 (a0 a1:Value) (w:World) (R:VW):Prop:=
 cL 83 [a0,a1] w fun x7 w=>
 R x7 w
def cfg85:Cfg:=⟨extL,[],[],[],[],[],[]⟩
theorem F85_call {a0 a1:Value} {w:World} {R:VW} (h:F85 a0 a1 w R):cL 85 [a0,a1] w R:=co (g:=cfg85) Tryz.func85 (by kernel_rfl) (by kernel_rfl) (by kernel_rfl) h
theorem zjm {w:World} {v0:Value} {W0:World} {l1:(List Int)} {v1:Value} {W1:World} {l2:(List Int)}  (h0:Is W0 v0 l1) (e0:Ext W0 w) (h1:Is W1 v1 l2) (e1:Ext W1 w)  :
   CALL Tryz.prog 85 [v0,v1] w fun r w'=>Ext w w'∧(r=.bool (decide (l1=l2))):=by
 refine F85_call ?_
 unfold F85
 refine (zfv h0 e0 h1 e1).mono ?_
 rintro _ w1_ ⟨hx1_,rfl⟩
 refine ⟨hx1_,?_⟩
 rfl
theorem zo9 {P:Program} {f:Nat} {args:List Value} {w:World} {K:Value→World→Prop} (hE:zdu P f=true) (h:CALL P f args w K):OPN P (zh1 (.func (.func f) #[] #[]) args) w K:=by
 obtain ⟨h⟩:=h
 refine .enter f args.toArray w ?_ h
 simp [zh1,Deferred.ofValue,invoke,zey hE]
theorem zrk:zdu Tryz.prog 85=true:=by kernel_rfl
def F84 (a0 a1 a2:Value) (w:World) (R:VW):Prop:=
 rN 31 3 a0 w fun x11=>
 rN 31 3 a1 w fun x13=>
 rB .neq 3 T0 T0 x11 x13 w fun x14=>
 BR x14
 (R (Value.bool false) w)
 (rN 31 3 a0 w fun x16=>
 LOOPI [17] [(iV 0)] w fun u4 w next4=>
 rC (u4 17) x16 w fun x18=>
 BR x18
 (rX 31 a0 (u4 17) w fun x20=>
 rL 25 x20 w fun x21=>
 rX 31 a1 (u4 17) w fun x24=>
 rL 25 x24 w fun x25=>
 OPN tp (zh1 a2 [x21,x25]) w fun x29 w=>
 rD (Op.unary .not x29) w fun x30=>
 BR x30
 (R (Value.bool false) w)
 (rA (u4 17) (iV 1) w fun x31=>
 next4 [x31] w))
 (R (Value.bool true) w))
def cfg84:Cfg:=⟨extL,[],[(4,4294837184,[17])],[],[],[],[]⟩
theorem F84_call {a0 a1 a2:Value} {w:World} {R:VW} (h:F84 a0 a1 a2 w R):cL 84 [a0,a1,a2] w R:=co (g:=cfg84) Tryz.func84 (by kernel_rfl) (by kernel_rfl) (by kernel_rfl) h
theorem zkf {w:World} {v0:Value} {W0:World} {l1:(List (List Int))} {v1:Value} {W1:World} {l2:(List (List Int))} {v2:Value}  (h0:Is W0 v0 l1) (e0:Ext W0 w) (h1:Is W1 v1 l2) (e1:Ext W1 w) (hf:v2=.func (.func 85) #[] #[]) :
   CALL Tryz.prog 84 [v0,v1,v2] w fun r w'=>Ext w w'∧(r=.bool (decide (l1=l2))):=by
 refine F84_call ?_
 unfold F84
 subst hf
 have hln11:=zaf h0
 refine zae u31 h0 ?_
 have hln13:=zaf h1
 refine zae u31 h1 ?_
 refine zaY ?_
 refine br (fun c1=>?_) (fun c1=>?_)
 · refine ⟨Ext.refl w,?_⟩
   have:l1≠l2:=fun e=>c1 (by rw [e])
   simp [this]
 have hln16:=zaf h0
 refine zae u31 h0 ?_
 refine zaF (l1.length) (fun k us w'=>us=[.int .i64 (k:Int)]∧Ext w w'∧(l1.take k=l2.take k)) (0) (by omega) ⟨by simp,Ext.refl w,by simp⟩ ?_
 rintro k m4 uu4 w1_ hk4 ⟨hu,hx1_,hinv⟩
 simp only [List.map_cons,List.map_nil,List.cons.injEq,and_true] at hu
 try rw [hu]
 try clear hu
 refine zai ?_
 refine br (fun c2=>?_) (fun c2=>?_)
 · refine zad u31 zaJ h0 (by omega) fun b20 o20 h20=>?_
   refine zab zaJ h20 (e0.trans hx1_) fun v21 h21=>?_
   refine zad u31 zaJ h1 (by omega) fun b24 o24 h24=>?_
   refine zab zaJ h24 (e1.trans hx1_) fun v25 h25=>?_
   refine zo9 zrk ((zjm h21 (e0.trans hx1_) h25 (e1.trans hx1_)).mono ?_)
   rintro _ w9 ⟨hx9,rfl⟩
   refine zau ?_
   refine br (fun c3=>?_) (fun c3=>?_)
   · refine ⟨(hx1_.trans hx9),?_⟩
     have:l1≠l2:=fun e=>c3 (by subst e;rfl)
     simp [this]
   refine zal (by omega) ?_
   refine ⟨m4-1,by omega,k+1,by omega,by simp,(hx1_.trans hx9),?_⟩
   rw [List.take_succ_eq_append_getElem (by omega),List.take_succ_eq_append_getElem (by omega),hinv,Decidable.not_not.1 c3]
 refine ⟨hx1_,?_⟩
 rw [List.take_of_length_le (by omega),List.take_of_length_le (by omega)] at hinv
 simp [hinv]
def F26 (a0 a1:Value) (w:World) (R:VW):Prop:=
 oP (Instr.box 33 a0) w fun x2 w=>
 oP (Instr.box 33 a1) w fun x3 w=>
 rF 33 x2 0 w fun x5=>
 rL 25 x5 w fun x6=>
 rF 33 x3 0 w fun x7=>
 rL 25 x7 w fun x8=>
 cL 83 [x6,x8] w fun x9 w=>
 rD (Op.unary .not x9) w fun x10=>
 BR x10
 (R (Value.bool false) w)
 (rF 33 x2 1 w fun x12=>
 rL 25 x12 w fun x13=>
 rF 33 x3 1 w fun x14=>
 rL 25 x14 w fun x15=>
 cL 83 [x13,x15] w fun x16 w=>
 rD (Op.unary .not x16) w fun x17=>
 BR x17
 (R (Value.bool false) w)
 (rF 33 x2 2 w fun x19=>
 rL 31 x19 w fun x20=>
 rF 33 x3 2 w fun x21=>
 rL 31 x21 w fun x22=>
 cL 84 [x20,x22,(Value.func (.func 85) #[] #[])] w fun x23 w=>
 R x23 w))
def cfg26:Cfg:=⟨extL,[],[],[],[],[],[]⟩
theorem F26_call {a0 a1:Value} {w:World} {R:VW} (h:F26 a0 a1 w R):cL 26 [a0,a1] w R:=co (g:=cfg26) Tryz.func26 (by kernel_rfl) (by kernel_rfl) (by kernel_rfl) h
theorem zeu {w:World} {v0:Value} {W0:World} {s1:DState} {v1:Value} {W1:World} {s2:DState}  (h0:Is W0 v0 s1) (e0:Ext W0 w) (h1:Is W1 v1 s2) (e1:Ext W1 w)  :
   CALL Tryz.prog 26 [v0,v1] w fun r w'=>Ext w w'∧(r=.bool (decide (s1=s2))):=by
 refine F26_call ?_
 unfold F26
 refine zap zbf rfl h0 e0 fun w1_ hx1_ hA2 hV2=>?_
 refine zap zbf rfl h1 (e1.trans hx1_) fun w2_ hx2_ hA3 hV3=>?_
 refine zaa zdh ?_
 refine zab zaJ (za2 hA2) hx2_ fun v6 h6=>?_
 refine zaa zdh ?_
 refine zab zaJ (za2 hA3) (Ext.refl w2_) fun v8 h8=>?_
 refine (zfv h6 hx2_ h8 (Ext.refl w2_)).mono ?_
 rintro _ w3_ ⟨hx3_,rfl⟩
 refine zau ?_
 refine br (fun c1=>?_) (fun c1=>?_)
 · refine ⟨(hx1_.trans (hx2_.trans hx3_)),?_⟩
   have:s1≠s2:=fun e=>c1 (by rw [e])
   simp [this]
 refine zaa zb5 ?_
 refine zab zaJ (zbc hA2) (hx2_.trans hx3_) fun v13 h13=>?_
 refine zaa zb5 ?_
 refine zab zaJ (zbc hA3) hx3_ fun v15 h15=>?_
 refine (zfv h13 (hx2_.trans hx3_) h15 hx3_).mono ?_
 rintro _ w4_ ⟨hx4_,rfl⟩
 refine zau ?_
 refine br (fun c2=>?_) (fun c2=>?_)
 · refine ⟨(hx1_.trans (hx2_.trans (hx3_.trans hx4_))),?_⟩
   have:s1≠s2:=fun e=>c2 (by rw [e])
   simp [this]
 refine zaa zaC ?_
 refine zab zc1 (zaq hA2) (hx2_.trans (hx3_.trans hx4_)) fun v20 h20=>?_
 refine zaa zaC ?_
 refine zab zc1 (zaq hA3) (hx3_.trans hx4_) fun v22 h22=>?_
 refine (zkf h20 (hx2_.trans (hx3_.trans hx4_)) h22 (hx3_.trans hx4_) rfl).mono ?_
 rintro _ w5_ ⟨hx5_,rfl⟩
 refine ⟨(hx1_.trans (hx2_.trans (hx3_.trans (hx4_.trans hx5_)))),?_⟩
 have:s1=s2↔s1.stacks=s2.stacks:=by
   constructor
   · intro e;rw [e]
   intro e
   cases s1;cases s2
   simp only [Decidable.not_not] at c1 c2 e
   rw [c1,c2,e]
 simp [this]
def F32 (a0 a1:Value) (w:World) (R:VW):Prop:=
 oP (Instr.box 33 a0) w fun x2 w=>
 oP (Instr.box 33 a1) w fun x3 w=>
 rF 33 x2 0 w fun x6=>
 rL 25 x6 w fun x7=>
 rF 33 x3 0 w fun x8=>
 rL 25 x8 w fun x9=>
 cL 91 [x7,x9] w fun x10 w=>
 rD (Op.unary .not x10) w fun x11=>
 BR x11
 (R (Value.bool false) w)
 (rF 33 x2 1 w fun x13=>
 rL 25 x13 w fun x14=>
 rF 33 x3 1 w fun x15=>
 rL 25 x15 w fun x16=>
 cL 91 [x14,x16] w fun x17 w=>
 rD (Op.unary .not x17) w fun x18=>
 BR x18
 (R (Value.bool false) w)
 (rF 33 x2 2 w fun x21=>
 rL 31 x21 w fun x22=>
 rN 31 3 x22 w fun x23=>
 rF 33 x3 2 w fun x24=>
 rL 31 x24 w fun x25=>
 rN 31 3 x25 w fun x26=>
 rB .neq 3 T0 T0 x23 x26 w fun x27=>
 BR x27
 (R (Value.bool false) w)
 (LOOPI [5] [(iV 0)] w fun u4 w next4=>
 rF 33 x2 2 w fun x30=>
 rL 31 x30 w fun x31=>
 rN 31 3 x31 w fun x32=>
 rC (u4 5) x32 w fun x33=>
 BR x33
 ((fun w=>rF 33 x2 2 w fun x36=>
 rL 31 x36 w fun x37=>
 rX 31 x37 (u4 5) w fun x39=>
 rL 25 x39 w fun x40=>
 rF 33 x3 2 w fun x41=>
 rL 31 x41 w fun x42=>
 rX 31 x42 (u4 5) w fun x44=>
 rL 25 x44 w fun x45=>
 cL 91 [x40,x45] w fun x46 w=>
 rD (Op.unary .not x46) w fun x47=>
 BR x47
 (R (Value.bool false) w)
 (rA (u4 5) (iV 1) w fun x35=>
 next4 [x35] w)) (World.drew1 w))
 (R (Value.bool true) w))))
def cfg32:Cfg:=⟨extL,[],[(4,281474439839792,[5])],[(6,[0,1,2,3,4,5,6,7,8,9,10,11],0)],[],[],[]⟩
theorem F32_call {a0 a1:Value} {w:World} {R:VW} (h:F32 a0 a1 w R):cL 32 [a0,a1] w R:=co (g:=cfg32) Tryz.func32 (by kernel_rfl) (by kernel_rfl) (by kernel_rfl) h
theorem zev {w:World} {v0:Value} {W0:World} {s1:DState} {v1:Value} {W1:World} {s2:DState}  (h0:Is W0 v0 s1) (e0:Ext W0 w) (h1:Is W1 v1 s2) (e1:Ext W1 w)  :
   CALL Tryz.prog 32 [v0,v1] w fun r w'=>Ext w w'∧(r=.bool (decide (s1=s2))):=by
 refine F32_call ?_
 unfold F32
 refine zap zbf rfl h0 e0 fun w1_ hx1_ hA2 hV2=>?_
 refine zap zbf rfl h1 (e1.trans hx1_) fun w2_ hx2_ hA3 hV3=>?_
 refine zaa zdh ?_
 refine zab zaJ (za2 hA2) hx2_ fun v7 h7=>?_
 refine zaa zdh ?_
 refine zab zaJ (za2 hA3) (Ext.refl w2_) fun v9 h9=>?_
 refine (zgB h7 hx2_ h9 (Ext.refl w2_)).mono ?_
 rintro _ w3_ ⟨hx3_,rfl⟩
 refine zau ?_
 refine br (fun c1=>?_) (fun c1=>?_)
 · refine ⟨(hx1_.trans (hx2_.trans hx3_)),?_⟩
   have:s1≠s2:=fun e=>c1 (by rw [e])
   simp [this]
 refine zaa zb5 ?_
 refine zab zaJ (zbc hA2) (hx2_.trans hx3_) fun v14 h14=>?_
 refine zaa zb5 ?_
 refine zab zaJ (zbc hA3) hx3_ fun v16 h16=>?_
 refine (zgB h14 (hx2_.trans hx3_) h16 hx3_).mono ?_
 rintro _ w4_ ⟨hx4_,rfl⟩
 refine zau ?_
 refine br (fun c2=>?_) (fun c2=>?_)
 · refine ⟨(hx1_.trans (hx2_.trans (hx3_.trans hx4_))),?_⟩
   have:s1≠s2:=fun e=>c2 (by rw [e])
   simp [this]
 refine zaa zaC ?_
 refine zab zc1 (zaq hA2) (hx2_.trans (hx3_.trans hx4_)) fun v22 h22=>?_
 have hln23:=zaf h22
 refine zae u31 h22 ?_
 refine zaa zaC ?_
 refine zab zc1 (zaq hA3) (hx3_.trans hx4_) fun v25 h25=>?_
 have hln26:=zaf h25
 refine zae u31 h25 ?_
 refine zaY ?_
 refine br (fun c3=>?_) (fun c3=>?_)
 · refine ⟨(hx1_.trans (hx2_.trans (hx3_.trans hx4_))),?_⟩
   have:s1≠s2:=fun e=>c3 (by rw [e])
   simp [this]
 refine zaF (s1.stacks.length) (fun k us w'=>us=[.int .i64 (k:Int)]∧Ext w4_ w'∧(s1.stacks.take k=s2.stacks.take k)) (0) (by omega) ⟨by simp,Ext.refl w4_,by simp⟩ ?_
 rintro k m4 uu4 w5_ hk4 ⟨hu,hx5_,hinv⟩
 simp only [List.map_cons,List.map_nil,List.cons.injEq,and_true] at hu
 try rw [hu]
 try clear hu
 refine zaa zaC ?_
 refine zab zc1 (zaq hA2) (hx2_.trans (hx3_.trans (hx4_.trans hx5_))) fun v31 h31=>?_
 have hln32:=zaf h31
 refine zae u31 h31 ?_
 refine zai ?_
 refine br (fun c4=>?_) (fun c4=>?_)
 · have hx6_:=zah w5_
   refine zaa zaC ?_
   refine zab zc1 (zaq hA2) (hx2_.trans (hx3_.trans (hx4_.trans (hx5_.trans hx6_)))) fun v37 h37=>?_
   refine zad u31 zaJ h37 (by omega) fun b39 o39 h39=>?_
   refine zab zaJ h39 (hx2_.trans (hx3_.trans (hx4_.trans (hx5_.trans hx6_)))) fun v40 h40=>?_
   refine zaa zaC ?_
   refine zab zc1 (zaq hA3) (hx3_.trans (hx4_.trans (hx5_.trans hx6_))) fun v42 h42=>?_
   refine zad u31 zaJ h42 (by omega) fun b44 o44 h44=>?_
   refine zab zaJ h44 (hx3_.trans (hx4_.trans (hx5_.trans hx6_))) fun v45 h45=>?_
   refine (zgB h40 (hx2_.trans (hx3_.trans (hx4_.trans (hx5_.trans hx6_)))) h45 (hx3_.trans (hx4_.trans (hx5_.trans hx6_)))).mono ?_
   rintro _ w7_ ⟨hx7_,rfl⟩
   refine zau ?_
   refine br (fun c5=>?_) (fun c5=>?_)
   · refine ⟨(hx1_.trans (hx2_.trans (hx3_.trans (hx4_.trans (hx5_.trans (hx6_.trans hx7_)))))),?_⟩
     have:s1≠s2:=fun e=>c5 (by subst e;rfl)
     simp [this]
   refine zal (by omega) ?_
   refine ⟨m4-1,by omega,k+1,by omega,by simp,(hx5_.trans (hx6_.trans hx7_)),?_⟩
   rw [List.take_succ_eq_append_getElem (by omega),List.take_succ_eq_append_getElem (by omega),hinv,Decidable.not_not.1 c5]
 refine ⟨(hx1_.trans (hx2_.trans (hx3_.trans (hx4_.trans hx5_)))),?_⟩
 rw [List.take_of_length_le (by omega),List.take_of_length_le (by omega)] at hinv
 have:s1=s2:=by
   cases s1;cases s2
   simp only [Decidable.not_not] at c1 c2 hinv
   rw [c1,c2,hinv]
 simp [this]
def ow (s:DState) (i:Int):Int:=s.owner.getD i.toNat 0
theorem zpC {s:DState} {i:Nat} (h:i<s.owner.length):s.owner[i]=ow s i:=by unfold ow;rw [List.getD_eq_getElem?_getD,Int.toNat_natCast,List.getElem?_eq_getElem h];rfl
theorem zln {s:DState} {i:Int} (h0:0≤i) (h:i.toNat<s.owner.length):s.owner[i.toNat]=ow s i:=by unfold ow;rw [List.getD_eq_getElem?_getD,List.getElem?_eq_getElem h];rfl
def stk (s:DState) (t:Int):List Int:=s.stacks.getD t.toNat []
theorem zdU {s:DState} {t:Int} (h:t.toNat<s.stacks.length):s.stacks[t.toNat]=stk s t:=by unfold stk;rw [List.getD_eq_getElem?_getD,List.getElem?_eq_getElem h];rfl
def atI (c:DCode) (s:DState) (t:Int):DIns:=zbG c (zdR s t).toNat
theorem zeL {s:DState} {t:Int} (h:0≤zdR s t):0≤t∧t.toNat<s.stacks.length:=by
 unfold zdR at h
 split at h
 · assumption
 omega
theorem zma {s:DState} {t:Int} (h0:0≤t) (h1:t.toNat<s.stacks.length):zdR s t=(stk s t).getLastD (-1):=by
 unfold zdR;rw [dif_pos ⟨h0,h1⟩,zdU h1]
theorem zoe {l:List Int} (h:l≠[]):l.getLastD (-1)=st l (l.length-1):=by
 unfold st
 rw [List.getLastD_eq_getLast?,List.getLast?_eq_getElem?,List.getD_eq_getElem?_getD]
 have:l.length-1<l.length:=by have:=List.length_pos_iff.2 h;omega
 rw [List.getElem?_eq_getElem this];rfl
theorem zlo {c:DCode} {s:DState} (hs:zaK c s) (t:Int):-1≤zdR s t∧zdR s t<c.ins.length:=by
 by_cases h:0≤t∧t.toNat<s.stacks.length
 · rw [zma h.1 h.2]
   by_cases hn:stk s t=[]
   · rw [hn];simp [List.getLastD];omega
   have hl:=List.length_pos_iff.2 hn
   have hm:=hs.2.2.2.2.2 (stk s t) (by rw [←zdU h.2];exact List.getElem_mem _)
   rw [zoe hn]
   have:=hm.2.1 ((stk s t).length-1) (by omega)
   omega
 unfold zdR;rw [dif_neg h];omega
theorem zhN {c:DCode} (hc:CodeR c) {j:Nat} (hj:j<c.ins.length):zfe c (zbG c j) (en c (zaD c j).toNat) (zd5 c (zaD c j)+1):=hc.2.2 j hj
theorem zpa {c:DCode} (hc:CodeR c) {j:Nat} (hj:j<c.ins.length) (h:(zbG c j).op=6∨(zbG c j).op=7):0≤(zbG c j).arg∧(zbG c j).arg<c.locks.length:=by
 have:=(zhN hc hj).2.1
 unfold zbH at this
 rwa [if_neg (by omega),if_neg (by omega),if_pos h] at this
theorem NamesR.locks6 {c:DCode} (h:NamesR c):c.locks.length≤6:=by
 have h1:=h.2.1
 simp only [Bool.and_eq_true,decide_eq_true_eq] at h1
 omega
theorem NamesR.globals6 {c:DCode} (h:NamesR c):c.globals.length≤6:=by
 have h1:=h.1
 simp only [Bool.and_eq_true,decide_eq_true_eq] at h1
 omega
theorem zpb {c:DCode} {s:DState} (hs:zaK c s) {i:Int} (h0:0≤i) (h:i.toNat<s.owner.length):-1≤ow s i∧ow s i<s.stacks.length:=by
 rw [←zln h0 h];exact hs.2.2.2.2.1 _ (List.getElem_mem _)
theorem zfZ {c:DCode} {s:DState} {t:Int} (hc:CodeR c) (hs:zaK c s) (h:0≤zdR s t):zfe c (atI c s t) (en c (zaD c (zdR s t)).toNat) (zd5 c (zaD c (zdR s t))+1):=by
 have:=zlo hs t
 have h1:=zhN hc (j:=(zdR s t).toNat) (by omega)
 rwa [Int.toNat_of_nonneg h] at h1
theorem ze4 {c:DCode} {s:DState} {t:Int} (hc:CodeR c) (hs:zaK c s) (h:0≤zdR s t) (ho:(atI c s t).op=6∨(atI c s t).op=7):0≤(atI c s t).arg∧(atI c s t).arg.toNat<s.owner.length:=by
 have:=zlo hs t
 have h1:=zpa hc (j:=(zdR s t).toNat) (by omega) ho
 have h2:=hs.2.1
 unfold atI
 omega
def F138 (a0 a1:Value) (w:World) (R:VW):Prop:=
 oP (Instr.box 33 a0) w fun x2 w=>
 rB .lss 3 T0 U0 a1 (iV 0) w fun x6=>
 BR x6
 (R (iV (-1)) w)
 (rF 33 x2 1 w fun x9=>
 rL 25 x9 w fun x10=>
 rN 25 3 x10 w fun x11=>
 rB .geq 3 T0 T0 a1 x11 w fun x12=>
 BR x12
 (R (iV (-1)) w)
 (rF 33 x2 1 w fun x14=>
 rL 25 x14 w fun x15=>
 rX 25 x15 a1 w fun x17=>
 rL 3 x17 w fun x18=>
 rD (Builtin.max_ #[3,3] 3 [x18,(iV (-1))].toArray) w fun x19=>
 R x19 w))
def cfg138:Cfg:=⟨extL,[],[],[],[],[],[]⟩
theorem F138_call {a0 a1:Value} {w:World} {R:VW} (h:F138 a0 a1 w R):cL 138 [a0,a1] w R:=co (g:=cfg138) Tryz.func138 (by kernel_rfl) (by kernel_rfl) (by kernel_rfl) h
theorem zlp {w:World} {v0:Value} {W0:World} {s:DState} {i:Int}  (h0:Is W0 v0 s) (e0:Ext W0 w) (hi0:0≤i) (hi1:i.toNat<s.owner.length) :
   CALL Tryz.prog 138 [v0,.int .i64 i] w fun r w'=>Ext w w'∧(r=.int .i64 (max (ow s i) (-1))):=by
 refine F138_call ?_
 unfold F138
 refine zap zbf rfl h0 e0 fun w1_ hx1_ hA2 hV2=>?_
 refine zai ?_
 refine br (fun c1=>?_) (fun c1=>?_)
 · refine ⟨hx1_,?_⟩
   exact absurd c1 (by omega)
 refine zaa zb5 ?_
 refine zab zaJ (zbc hA2) (Ext.refl w1_) fun v10 h10=>?_
 have hln11:=zaf h10
 refine zae u25 h10 ?_
 refine zbP ?_
 refine br (fun c2=>?_) (fun c2=>?_)
 · refine ⟨hx1_,?_⟩
   exact absurd c2 (by omega)
 refine zaa zb5 ?_
 refine zab zaJ (zbc hA2) (Ext.refl w1_) fun v15 h15=>?_
 refine zas u25 ty3 h15 (by omega) (by omega) fun b17 o17 h17=>?_
 refine zac ty3 h17 (Ext.refl w1_) fun hI18=>?_
 refine zqJ ?_
 refine ⟨hx1_,?_⟩
 rw [zln hi0 hi1]
def GoR (c:DCode) (s:DState) (t:Int):Prop:=0≤zdR s t∧((atI c s t).op=6→ow s (atI c s t).arg=-1)∧((atI c s t).op=4→((stk s t).length:Int)<8)
instance (c:DCode) (s:DState) (t:Int):Decidable (GoR c s t):=by unfold GoR;infer_instance
def F136 (a0 a1 a2:Value) (w:World) (R:VW):Prop:=
 oP (Instr.box 28 a0) w fun x3 w=>
 oP (Instr.box 33 a1) w fun x4 w=>
 rL 33 x4 w fun x8=>
 cL 163 [x8,a2] w fun x10 w=>
 rB .lss 3 T0 U0 x10 (iV 0) w fun x12=>
 BR x12
 (R (Value.bool false) w)
 (rF 28 x3 4 w fun x13=>
 rL 26 x13 w fun x14=>
 rX 26 x14 x10 w fun x16=>
 rF 77 x16 0 w fun x17=>
 rL 3 x17 w fun x18=>
 rB .eql 3 T0 U0 x18 (iV 6) w fun x20=>
 BR x20
 ((fun w=>rF 33 x4 1 w fun x21=>
 rL 25 x21 w fun x22=>
 rF 28 x3 4 w fun x23=>
 rL 26 x23 w fun x24=>
 rX 26 x24 x10 w fun x26=>
 rF 77 x26 1 w fun x27=>
 rL 3 x27 w fun x28=>
 rX 25 x22 x28 w fun x29=>
 rL 3 x29 w fun x30=>
 rB .eql 3 T0 U0 x30 (iV (-1)) w fun x31=>
 R x31 w) (World.drew1 w))
 (rB .eql 3 T0 U0 x18 (iV 4) w fun x33=>
 BR x33
 (rF 33 x4 2 w fun x34=>
 rL 31 x34 w fun x35=>
 rX 31 x35 a2 w fun x37=>
 rL 25 x37 w fun x38=>
 rN 25 3 x38 w fun x39=>
 rB .lss 3 T0 U0 x39 (iV 8) w fun x40=>
 R x40 w)
 (R (Value.bool true) w)))
def cfg136:Cfg:=⟨extL,[],[],[(6,[0,1,2,3,4,5,6,7,8,9,10,11],0)],[],[],[]⟩
theorem F136_call {a0 a1 a2:Value} {w:World} {R:VW} (h:F136 a0 a1 a2 w R):cL 136 [a0,a1,a2] w R:=co (g:=cfg136) Tryz.func136 (by kernel_rfl) (by kernel_rfl) (by kernel_rfl) h
theorem zmb {w:World} {v0:Value} {W0:World} {c:DCode} {v1:Value} {W1:World} {s:DState} {t:Int}  (h0:Is W0 v0 c) (e0:Ext W0 w) (h1:Is W1 v1 s) (e1:Ext W1 w) (hc:CodeR c) (hs:zaK c s) :
   CALL Tryz.prog 136 [v0,v1,.int .i64 t] w fun r w'=>Ext w w'∧(r=.bool (decide (GoR c s t))):=by
 refine F136_call ?_
 unfold F136
 have hat:=zlo hs t
 refine zap zcx rfl h0 e0 fun w1_ hx1_ hA3 hV3=>?_
 refine zap zbf rfl h1 (e1.trans hx1_) fun w2_ hx2_ hA4 hV4=>?_
 refine zaB hV4 (Ext.refl w2_) ?_
 refine (zk0 h1 (e1.trans (hx1_.trans hx2_))).mono ?_
 rintro _ w3_ ⟨hx3_,rfl⟩
 refine zai ?_
 refine br (fun c1=>?_) (fun c1=>?_)
 · refine ⟨(hx1_.trans (hx2_.trans hx3_)),?_⟩
   have:¬GoR c s t:=fun h=>by have:=h.1;omega
   simp only [this,decide_false]
 refine zaa zbL ?_
 refine zab zeX (zaz hA3) (hx2_.trans hx3_) fun v14 h14=>?_
 refine zas u26 zga h14 (by omega) (by omega) fun b16 o16 h16=>?_
 rw [zbk] at h16
 change At _ _ _ (atI c s t) at h16
 have hat0:0≤zdR s t:=by omega
 have hth:=zeL hat0
 refine zaa zck ?_
 refine zac ty3 (zaT h16) (hx2_.trans hx3_) fun hI18=>?_
 refine zag ?_
 refine br (fun c2=>?_) (fun c2=>?_)
 · have hx4_:=zah w3_
   refine zaa zb5 ?_
   refine zab zaJ (zbc hA4) (hx3_.trans hx4_) fun v22 h22=>?_
   refine zaa zbL ?_
   refine zab zeX (zaz hA3) (hx2_.trans (hx3_.trans hx4_)) fun v24 h24=>?_
   refine zas u26 zga h24 (by omega) (by omega) fun b26 o26 h26=>?_
   rw [zbk] at h26
   change At _ _ _ (atI c s t) at h26
   have hlk:=ze4 hc hs hat0 (.inl c2)
   refine zaa zcH ?_
   refine zac ty3 (za9 h26) (hx2_.trans (hx3_.trans hx4_)) fun hI28=>?_
   refine zas u25 ty3 h22 (by omega) (by omega) fun b29 o29 h29=>?_
   refine zac ty3 h29 (hx3_.trans hx4_) fun hI30=>?_
   refine zag ?_
   refine ⟨(hx1_.trans (hx2_.trans (hx3_.trans hx4_))),?_⟩
   congr 1
   rw [decide_eq_decide,zln hlk.1 hlk.2]
   exact ⟨fun h=>⟨hat0,fun _=>h,fun h4=>by omega⟩,fun h=>h.2.1 c2⟩
 refine zag ?_
 refine br (fun c3=>?_) (fun c3=>?_)
 · refine zaa zaC ?_
   refine zab zc1 (zaq hA4) hx3_ fun v35 h35=>?_
   refine zas u31 zaJ h35 (by omega) (by omega) fun b37 o37 h37=>?_
   refine zab zaJ h37 hx3_ fun v38 h38=>?_
   have hln39:=zaf h38
   refine zae u25 h38 ?_
   refine zai ?_
   refine ⟨(hx1_.trans (hx2_.trans hx3_)),?_⟩
   congr 1
   rw [decide_eq_decide,zdU hth.2]
   exact ⟨fun h=>⟨hat0,fun h6=>by omega,fun _=>h⟩,fun h=>h.2.2 c3⟩
 refine ⟨(hx1_.trans (hx2_.trans hx3_)),?_⟩
 have:GoR c s t:=⟨hat0,fun h6=>absurd h6 c2,fun h4=>absurd h4 c3⟩
 simp only [this,decide_true]
def F78 (a0 a1 a2:Value) (w:World) (R:VW):Prop:=
 oP (Instr.box 28 a0) w fun x3 w=>
 oP (Instr.box 33 a1) w fun x4 w=>
 rL 33 x4 w fun x8=>
 cL 22 [x8,a2] w fun x10 w=>
 rL 28 x3 w fun x11=>
 cL 105 [x11,x10] w fun x13 w=>
 rD (Op.unary .not x13) w fun x14=>
 BR x14
 (R (Value.bool false) w)
 (rF 28 x3 4 w fun x15=>
 rL 26 x15 w fun x16=>
 rX 26 x16 x10 w fun x18=>
 rF 77 x18 0 w fun x19=>
 rL 3 x19 w fun x20=>
 rB .eql 3 T0 U0 x20 (iV 6) w fun x22=>
 BR x22
 ((fun w=>rL 33 x4 w fun x23=>
 rF 28 x3 4 w fun x24=>
 rL 26 x24 w fun x25=>
 rX 26 x25 x10 w fun x27=>
 rF 77 x27 1 w fun x28=>
 rL 3 x28 w fun x29=>
 cL 138 [x23,x29] w fun x30 w=>
 rB .lss 3 T0 U0 x30 (iV 0) w fun x31=>
 R x31 w) (World.drew1 w))
 (rB .eql 3 T0 U0 x20 (iV 4) w fun x33=>
 BR x33
 (rF 33 x4 2 w fun x34=>
 rL 31 x34 w fun x35=>
 rX 31 x35 a2 w fun x37=>
 rL 25 x37 w fun x38=>
 rN 25 3 x38 w fun x39=>
 rB .lss 3 T0 U0 x39 (iV 8) w fun x40=>
 R x40 w)
 (R (Value.bool true) w)))
def cfg78:Cfg:=⟨extL,[],[],[(6,[0,1,2,3,4,5,6,7,8,9],0)],[],[],[]⟩
theorem F78_call {a0 a1 a2:Value} {w:World} {R:VW} (h:F78 a0 a1 a2 w R):cL 78 [a0,a1,a2] w R:=co (g:=cfg78) Tryz.func78 (by kernel_rfl) (by kernel_rfl) (by kernel_rfl) h
theorem zlq {w:World} {v0:Value} {W0:World} {c:DCode} {v1:Value} {W1:World} {s:DState} {t:Int}  (h0:Is W0 v0 c) (e0:Ext W0 w) (h1:Is W1 v1 s) (e1:Ext W1 w) (hc:CodeR c) (hs:zaK c s) :
   CALL Tryz.prog 78 [v0,v1,.int .i64 t] w fun r w'=>Ext w w'∧(r=.bool (decide (GoR c s t))):=by
 refine F78_call ?_
 unfold F78
 have hat:=zlo hs t
 refine zap zcx rfl h0 e0 fun w1_ hx1_ hA3 hV3=>?_
 refine zap zbf rfl h1 (e1.trans hx1_) fun w2_ hx2_ hA4 hV4=>?_
 refine zaB hV4 (Ext.refl w2_) ?_
 refine (zk1 h1 (e1.trans (hx1_.trans hx2_))).mono ?_
 rintro _ w3_ ⟨hx3_,rfl⟩
 refine zaB hV3 (hx2_.trans hx3_) ?_
 refine (zgA h0 (e0.trans (hx1_.trans (hx2_.trans hx3_)))).mono ?_
 rintro _ w4_ ⟨hx4_,rfl⟩
 refine zau ?_
 refine br (fun c1=>?_) (fun c1=>?_)
 · refine ⟨(hx1_.trans (hx2_.trans (hx3_.trans hx4_))),?_⟩
   have:¬GoR c s t:=fun h=>by have:=h.1;omega
   simp only [this,decide_false]
 refine zaa zbL ?_
 refine zab zeX (zaz hA3) (hx2_.trans (hx3_.trans hx4_)) fun v16 h16=>?_
 refine zas u26 zga h16 (by omega) (by omega) fun b18 o18 h18=>?_
 rw [zbk] at h18
 change At _ _ _ (atI c s t) at h18
 have hat0:0≤zdR s t:=by omega
 have hth:=zeL hat0
 refine zaa zck ?_
 refine zac ty3 (zaT h18) (hx2_.trans (hx3_.trans hx4_)) fun hI20=>?_
 refine zag ?_
 refine br (fun c2=>?_) (fun c2=>?_)
 · have hx5_:=zah w4_
   refine zaB hV4 (hx3_.trans (hx4_.trans hx5_)) ?_
   refine zaa zbL ?_
   refine zab zeX (zaz hA3) (hx2_.trans (hx3_.trans (hx4_.trans hx5_))) fun v25 h25=>?_
   refine zas u26 zga h25 (by omega) (by omega) fun b27 o27 h27=>?_
   rw [zbk] at h27
   change At _ _ _ (atI c s t) at h27
   have hlk:=ze4 hc hs hat0 (.inl c2)
   have hor:=zpb hs hlk.1 hlk.2
   refine zaa zcH ?_
   refine zac ty3 (za9 h27) (hx2_.trans (hx3_.trans (hx4_.trans hx5_))) fun hI29=>?_
   refine (zlp h1 (e1.trans (hx1_.trans (hx2_.trans (hx3_.trans (hx4_.trans hx5_))))) (by omega) (by omega)).mono ?_
   rintro _ w6_ ⟨hx6_,rfl⟩
   refine zai ?_
   refine ⟨(hx1_.trans (hx2_.trans (hx3_.trans (hx4_.trans (hx5_.trans hx6_))))),?_⟩
   congr 1
   rw [decide_eq_decide]
   exact ⟨fun h=>⟨hat0,fun _=>by omega,fun h4=>by omega⟩,fun h=>by have:=h.2.1 c2;omega⟩
 refine zag ?_
 refine br (fun c3=>?_) (fun c3=>?_)
 · refine zaa zaC ?_
   refine zab zc1 (zaq hA4) (hx3_.trans hx4_) fun v35 h35=>?_
   refine zas u31 zaJ h35 (by omega) (by omega) fun b37 o37 h37=>?_
   refine zab zaJ h37 (hx3_.trans hx4_) fun v38 h38=>?_
   have hln39:=zaf h38
   refine zae u25 h38 ?_
   refine zai ?_
   refine ⟨(hx1_.trans (hx2_.trans (hx3_.trans hx4_))),?_⟩
   congr 1
   rw [decide_eq_decide,zdU hth.2]
   exact ⟨fun h=>⟨hat0,fun h6=>by omega,fun _=>h⟩,fun h=>h.2.2 c3⟩
 refine ⟨(hx1_.trans (hx2_.trans (hx3_.trans hx4_))),?_⟩
 have:GoR c s t:=⟨hat0,fun h6=>absurd h6 c2,fun h4=>absurd h4 c3⟩
 simp only [this,decide_true]
def zdF (c:DCode) (s:DState):Nat→List Int
 | 0=>[]
 | k+1=>if GoR c s k then zdF c s k++[(k:Int)] else zdF c s k
theorem zfw (c:DCode) (s:DState):∀ k,(zdF c s k).length≤k
 | 0=>Nat.le_refl _
 | k+1=>by
   have:=zfw c s k
   rw [zdF]
   split
   · simp;omega
   omega
def ziv (c:DCode) (s:DState):List Int:=zdF c s s.stacks.length
def F75 (a0 a1:Value) (w:World) (R:VW):Prop:=
 oP (Instr.box 28 a0) w fun x2 w=>
 oP (Instr.box 33 a1) w fun x3 w=>
 oP (Instr.buildSlice 25 0 #[]) w fun x7 w=>
 LOOPI [5,6] [x7,(iV 0)] w fun u3 w next3=>
 rF 33 x3 2 w fun x9=>
 rL 31 x9 w fun x10=>
 rN 31 3 x10 w fun x11=>
 rC (u3 6) x11 w fun x12=>
 BR x12
 (rL 28 x2 w fun x15=>
 rL 33 x3 w fun x16=>
 cL 136 [x15,x16,(u3 6)] w fun x18 w=>
 BR x18
 (oP (Instr.buildSlice 25 1 #[(0,(u3 6))]) w fun x21 w=>
 oP (Builtin.append_ #[25,25] 25 [(u3 5),x21].toArray) w fun x22 w=>
 rA (u3 6) (iV 1) w fun x14=>
 next3 [x22,x14] w)
 (rA (u3 6) (iV 1) w fun x14=>
 next3 [(u3 5),x14] w))
 (R (u3 5) w)
def cfg75:Cfg:=⟨extL,[],[(3,8388448,[5,6])],[],[],[],[]⟩
theorem F75_call {a0 a1:Value} {w:World} {R:VW} (h:F75 a0 a1 w R):cL 75 [a0,a1] w R:=co (g:=cfg75) Tryz.func75 (by kernel_rfl) (by kernel_rfl) (by kernel_rfl) h
theorem zlr {w:World} {v0:Value} {W0:World} {c:DCode} {v1:Value} {W1:World} {s:DState}  (h0:Is W0 v0 c) (e0:Ext W0 w) (h1:Is W1 v1 s) (e1:Ext W1 w) (hc:CodeR c) (hs:zaK c s) :
   CALL Tryz.prog 75 [v0,v1] w fun r w'=>Ext w w'∧(Own w.heap.size w' r (ziv c s)):=by
 refine F75_call ?_
 unfold F75
 have hmany:=hs.2.2.1
 have hs_e0:=e0.size
 have hs_e1:=e1.size
 refine zap zcx rfl h0 e0 fun w1_ hx1_ hA2 hV2=>?_
 have hs_hx1_:=hx1_.size
 refine zap zbf rfl h1 (e1.trans hx1_) fun w2_ hx2_ hA3 hV3=>?_
 have hs_hx2_:=hx2_.size
 refine zbq (α:=Int) u25 ty3 fun v7 w3_ hx3_ o7=>?_
 have hs_hx3_:=hx3_.size
 refine zaF (s.stacks.length) (fun k us w'=>∃ v:Value,us=[v,.int .i64 (k:Int)]∧Ext w3_ w'∧(RowI w3_.heap.size w'.heap.size 3 w' v (zdF c s k))) (0) (by omega) ⟨_,rfl,Ext.refl w3_,zdy _ _ _ _ _⟩ ?_
 rintro k m3 uu3 w4_ hk3 ⟨v5,hu,hx4_,hrow⟩
 have hs_hx4_:=hx4_.size
 obtain ⟨hu0,hu1⟩:=zkG hu
 try rw [hu0]
 try rw [hu1]
 try clear hu0 hu1
 have hrl:=zfw c s k
 refine zaa zaC ?_
 refine zab zc1 (zaq hA3) (hx3_.trans hx4_) fun v10 h10=>?_
 have hln11:=zaf h10
 refine zae u31 h10 ?_
 refine zai ?_
 refine br (fun c1=>?_) (fun c1=>?_)
 · refine zaB hV2 (hx2_.trans (hx3_.trans hx4_)) ?_
   refine zaB hV3 (hx3_.trans hx4_) ?_
   refine (zmb h0 (e0.trans (hx1_.trans (hx2_.trans (hx3_.trans hx4_)))) h1 (e1.trans (hx1_.trans (hx2_.trans (hx3_.trans hx4_)))) (by assumption) (by assumption)).mono ?_
   rintro _ w5_ ⟨hx5_,rfl⟩
   have hs_hx5_:=hx5_.size
   refine br (fun c2=>?_) (fun c2=>?_)
   · refine zeF (α:=Int) u25 ty3 z3 zc3 (by decide) (hrow.ext hx5_) (by omega) (ownI_int (lo:=w5_.heap.size) (hi:=w5_.heap.size) (by first | assumption | (unfold I64 at *;omega))) (by omega) (by omega) (by rw [zak];omega) (by omega) fun v22 w6_ hc6_ o22=>?_
     have hs_hc6_:=hc6_.size
     have o7_c6:=(o7.ext (hx4_.trans hx5_)).chg hc6_ (by omega)
     refine zal (by omega) ?_
     refine ⟨m3-1,by omega,k+1,by omega,_,rfl,(Ext.chgI (hx4_.trans hx5_) hc6_ (by omega)),?_⟩
     rw [zdF,if_pos c2];exact o22
   refine zal (by omega) ?_
   refine ⟨m3-1,by omega,k+1,by omega,_,rfl,(hx4_.trans hx5_),?_⟩
   rw [zdF,if_neg c2];exact (hrow.ext hx5_).mono (by omega) (by omega)
 refine ⟨(hx1_.trans (hx2_.trans (hx3_.trans hx4_))),?_⟩
 have:k=s.stacks.length:=by omega
 subst this
 exact hrow.own.own.mono (by omega)
def F77 (a0 a1:Value) (w:World) (R:VW):Prop:=
 oP (Instr.box 28 a0) w fun x2 w=>
 oP (Instr.box 33 a1) w fun x3 w=>
 rF 33 x3 2 w fun x7=>
 rL 31 x7 w fun x8=>
 rN 31 3 x8 w fun x9=>
 LOOPI [5,10] [(Value.slice none 0 0),(iV 0)] w fun u3 w next3=>
 rC (u3 10) x9 w fun x11=>
 BR x11
 (rL 28 x2 w fun x13=>
 rL 33 x3 w fun x14=>
 cL 78 [x13,x14,(u3 10)] w fun x16 w=>
 BR x16
 (oP (Instr.buildSlice 25 1 #[(0,(u3 10))]) w fun x19 w=>
 oP (Builtin.append_ #[25,25] 25 [(u3 5),x19].toArray) w fun x20 w=>
 rA (u3 10) (iV 1) w fun x21=>
 next3 [x20,x21] w)
 (rA (u3 10) (iV 1) w fun x21=>
 next3 [(u3 5),x21] w))
 (R (u3 5) w)
def cfg77:Cfg:=⟨extL,[],[(3,4193376,[5,10])],[],[],[],[]⟩
theorem F77_call {a0 a1:Value} {w:World} {R:VW} (h:F77 a0 a1 w R):cL 77 [a0,a1] w R:=co (g:=cfg77) Tryz.func77 (by kernel_rfl) (by kernel_rfl) (by kernel_rfl) h
theorem ziw {w:World} {v0:Value} {W0:World} {c:DCode} {v1:Value} {W1:World} {s:DState}  (h0:Is W0 v0 c) (e0:Ext W0 w) (h1:Is W1 v1 s) (e1:Ext W1 w) (hc:CodeR c) (hs:zaK c s) :
   CALL Tryz.prog 77 [v0,v1] w fun r w'=>Ext w w'∧(Own w.heap.size w' r (ziv c s)):=by
 refine F77_call ?_
 unfold F77
 have hmany:=hs.2.2.1
 have hs_e0:=e0.size
 have hs_e1:=e1.size
 refine zap zcx rfl h0 e0 fun w1_ hx1_ hA2 hV2=>?_
 have hs_hx1_:=hx1_.size
 refine zap zbf rfl h1 (e1.trans hx1_) fun w2_ hx2_ hA3 hV3=>?_
 have hs_hx2_:=hx2_.size
 refine zaa zaC ?_
 refine zab zc1 (zaq hA3) (Ext.refl w2_) fun v8 h8=>?_
 have hln9:=zaf h8
 refine zae u31 h8 ?_
 refine zaF (s.stacks.length) (fun k us w'=>∃ v:Value,us=[v,.int .i64 (k:Int)]∧Ext w2_ w'∧(RowI w2_.heap.size w'.heap.size 3 w' v (zdF c s k))) (0) (by omega) ⟨_,rfl,Ext.refl w2_,zcS _ _ _ _⟩ ?_
 rintro k m3 uu3 w3_ hk3 ⟨v5,hu,hx3_,hrow⟩
 have hs_hx3_:=hx3_.size
 obtain ⟨hu0,hu1⟩:=zkG hu
 try rw [hu0]
 try rw [hu1]
 try clear hu0 hu1
 have hrl:=zfw c s k
 refine zai ?_
 refine br (fun c1=>?_) (fun c1=>?_)
 · refine zaB hV2 (hx2_.trans hx3_) ?_
   refine zaB hV3 hx3_ ?_
   refine (zlq h0 (e0.trans (hx1_.trans (hx2_.trans hx3_))) h1 (e1.trans (hx1_.trans (hx2_.trans hx3_))) (by assumption) (by assumption)).mono ?_
   rintro _ w4_ ⟨hx4_,rfl⟩
   have hs_hx4_:=hx4_.size
   refine br (fun c2=>?_) (fun c2=>?_)
   · refine zeF (α:=Int) u25 ty3 z3 zc3 (by decide) (hrow.ext hx4_) (by omega) (ownI_int (lo:=w4_.heap.size) (hi:=w4_.heap.size) (by first | assumption | (unfold I64 at *;omega))) (by omega) (by omega) (by rw [zak];omega) (by omega) fun v20 w5_ hc5_ o20=>?_
     have hs_hc5_:=hc5_.size
     refine zal (by omega) ?_
     refine ⟨m3-1,by omega,k+1,by omega,_,rfl,(Ext.chgI (hx3_.trans hx4_) hc5_ (by omega)),?_⟩
     rw [zdF,if_pos c2];exact o20
   refine zal (by omega) ?_
   refine ⟨m3-1,by omega,k+1,by omega,_,rfl,(hx3_.trans hx4_),?_⟩
   rw [zdF,if_neg c2];exact (hrow.ext hx4_).mono (by omega) (by omega)
 refine ⟨(hx1_.trans (hx2_.trans hx3_)),?_⟩
 have:k=s.stacks.length:=by omega
 subst this
 exact hrow.own.own.mono (by omega)
def zhO (c:DCode) (s:DState):List Int:=if CodeR c∧zaK c s then ziv c s else []
def F16 (a0 a1:Value) (w:World) (R:VW):Prop:=
 oP (Instr.box 28 a0) w fun x2 w=>
 oP (Instr.box 33 a1) w fun x3 w=>
 rL 28 x2 w fun x5=>
 rL 33 x3 w fun x6=>
 cL 14 [x5,x6] w fun x7 w=>
 rD (Op.unary .not x7) w fun x8=>
 BR x8
 (R (Value.slice none 0 0) w)
 (rL 28 x2 w fun x9=>
 rL 33 x3 w fun x10=>
 cL 77 [x9,x10] w fun x11 w=>
 R x11 w)
def cfg16:Cfg:=⟨extL,[],[],[],[],[],[]⟩
theorem F16_call {a0 a1:Value} {w:World} {R:VW} (h:F16 a0 a1 w R):cL 16 [a0,a1] w R:=co (g:=cfg16) Tryz.func16 (by kernel_rfl) (by kernel_rfl) (by kernel_rfl) h
theorem zh6 {w:World} {v0:Value} {W0:World} {c:DCode} {v1:Value} {W1:World} {s:DState}  (h0:Is W0 v0 c) (e0:Ext W0 w) (h1:Is W1 v1 s) (e1:Ext W1 w)  :
   CALL Tryz.prog 16 [v0,v1] w fun r w'=>Ext w w'∧(Own w.heap.size w' r (zhO c s)):=by
 refine F16_call ?_
 unfold F16
 have hs_e0:=e0.size
 have hs_e1:=e1.size
 refine zap zcx rfl h0 e0 fun w1_ hx1_ hA2 hV2=>?_
 have hs_hx1_:=hx1_.size
 refine zap zbf rfl h1 (e1.trans hx1_) fun w2_ hx2_ hA3 hV3=>?_
 have hs_hx2_:=hx2_.size
 refine zaB hV2 hx2_ ?_
 refine zaB hV3 (Ext.refl w2_) ?_
 refine (zff h0 (e0.trans (hx1_.trans hx2_)) h1 (e1.trans (hx1_.trans hx2_))).mono ?_
 rintro _ w3_ ⟨hx3_,rfl⟩
 have hs_hx3_:=hx3_.size
 refine zau ?_
 refine br (fun c1=>?_) (fun c1=>?_)
 · refine ⟨(hx1_.trans (hx2_.trans hx3_)),?_⟩
   unfold zhO;rw [if_neg c1];exact zhh rfl
 refine zaB hV2 (hx2_.trans hx3_) ?_
 refine zaB hV3 hx3_ ?_
 refine (ziw h0 (e0.trans (hx1_.trans (hx2_.trans hx3_))) h1 (e1.trans (hx1_.trans (hx2_.trans hx3_))) (Decidable.not_not.1 c1).1 (Decidable.not_not.1 c1).2).mono ?_
 rintro r11 w4_ ⟨hx4_,o11⟩
 have o11:=o11.toI
 have hs_hx4_:=hx4_.size
 refine ⟨(hx1_.trans (hx2_.trans (hx3_.trans hx4_))),?_⟩
 unfold zhO;rw [if_pos (Decidable.not_not.1 c1)];exact o11.own.mono (by omega)
def zkg (c:DCode) (s:DState):Prop:=(CodeR c∧zaK c s)∧¬zpB s∧ziv c s=[]
instance (c:DCode) (s:DState):Decidable (zkg c s):=by unfold zkg;infer_instance
theorem zf0 {n:Int} (h:0≤n):n.tmod 1000=n%1000:=Int.tmod_eq_emod_of_nonneg h
theorem zhb {n:Int} (h:n<0):n.tmod 1000=-((-n)%1000):=by
 have h1:(-n).tmod 1000=(-n)%1000:=Int.tmod_eq_emod_of_nonneg (by omega)
 rw [Int.neg_tmod] at h1
 omega
theorem zof (n:Int):-1000<n.tmod 1000∧n.tmod 1000<1000:=by
 rcases Int.lt_or_le n 0 with h | h
 · rw [zhb h];omega
 rw [zf0 h];omega
def F209 (a0:Value) (w:World) (R:VW):Prop:=
 rB .rem 3 T0 U0 a0 (iV 1000) w fun x4=>
 rA x4 (iV 1000) w fun x5=>
 rB .rem 3 T0 U0 x5 (iV 1000) w fun x6=>
 R x6 w
def cfg209:Cfg:=⟨extL,[],[],[],[],[],[]⟩
theorem F209_call {a0:Value} {w:World} {R:VW} (h:F209 a0 w R):cL 209 [a0] w R:=co (g:=cfg209) Tryz.func209 (by kernel_rfl) (by kernel_rfl) (by kernel_rfl) h
theorem zhP {w:World} {n:Int}   (hn:I64 n) :
   CALL Tryz.prog 209 [.int .i64 n] w fun r w'=>Ext w w'∧(r=.int .i64 (n%1000)):=by
 refine F209_call ?_
 unfold F209
 have ht:=zof n
 refine zie (by omega) ?_
 refine zb3 (by unfold I64;omega) ?_
 refine zie (by omega) ?_
 refine ⟨Ext.refl w,?_⟩
 congr 1
 rw [zf0 (n:=n.tmod 1000+1000) (by omega)]
 rcases Int.lt_or_le n 0 with h | h
 · rw [zhb h];omega
 rw [zf0 h];omega
def F210 (a0:Value) (w:World) (R:VW):Prop:=
 BR a0
 (R (iV 1) w)
 (R (iV 0) w)
def cfg210:Cfg:=⟨extL,[],[],[],[],[],[]⟩
theorem F210_call {a0:Value} {w:World} {R:VW} (h:F210 a0 w R):cL 210 [a0] w R:=co (g:=cfg210) Tryz.func210 (by kernel_rfl) (by kernel_rfl) (by kernel_rfl) h
theorem zf1 {w:World} {b:Bool}    :
   CALL Tryz.prog 210 [.bool b] w fun r w'=>Ext w w'∧(r=.int .i64 (if b=true then 1 else 0)):=by
 refine F210_call ?_
 unfold F210
 refine zdN (fun c1=>?_) (fun c1=>?_)
 · refine ⟨Ext.refl w,?_⟩
   rw [if_pos c1]
 refine ⟨Ext.refl w,?_⟩
 rw [if_neg (by simp [c1])]
def F265 (a0:Value) (w:World) (R:VW):Prop:=
 BR a0
 (R (iV 1) w)
 (R (iV 0) w)
def cfg265:Cfg:=⟨extL,[],[],[],[],[],[]⟩
theorem F265_call {a0:Value} {w:World} {R:VW} (h:F265 a0 w R):cL 265 [a0] w R:=co (g:=cfg265) Tryz.func265 (by kernel_rfl) (by kernel_rfl) (by kernel_rfl) h
theorem zeM {w:World} {b:Bool}    :
   CALL Tryz.prog 265 [.bool b] w fun r w'=>Ext w w'∧(r=.int .i64 (if b=true then 1 else 0)):=by
 refine F265_call ?_
 unfold F265
 refine zdN (fun c1=>?_) (fun c1=>?_)
 · refine ⟨Ext.refl w,?_⟩
   rw [if_pos c1]
 refine ⟨Ext.refl w,?_⟩
 rw [if_neg (by simp [c1])]
def F264 (a0:Value) (w:World) (R:VW):Prop:=
 rB .rem 3 T0 U0 a0 (iV 1000) w fun x4=>
 rB .lss 3 T0 U0 x4 (iV 0) w fun x6=>
 BR x6
 (rA x4 (iV 1000) w fun x8=>
 R x8 w)
 (R x4 w)
def cfg264:Cfg:=⟨extL,[],[],[],[],[],[]⟩
theorem F264_call {a0:Value} {w:World} {R:VW} (h:F264 a0 w R):cL 264 [a0] w R:=co (g:=cfg264) Tryz.func264 (by kernel_rfl) (by kernel_rfl) (by kernel_rfl) h
theorem zeN {w:World} {n:Int}   (hn:I64 n) :
   CALL Tryz.prog 264 [.int .i64 n] w fun r w'=>Ext w w'∧(r=.int .i64 (n%1000)):=by
 refine F264_call ?_
 unfold F264
 have ht:=zof n
 refine zie (by omega) ?_
 refine zai ?_
 refine br (fun c1=>?_) (fun c1=>?_)
 · refine zb3 (by unfold I64;omega) ?_
   refine ⟨Ext.refl w,?_⟩
   congr 1
   rcases Int.lt_or_le n 0 with h | h
   · rw [zhb h] at c1 ⊢;try omega
   rw [zf0 h] at c1 ⊢;try omega
 refine ⟨Ext.refl w,?_⟩
 congr 1
 rcases Int.lt_or_le n 0 with h | h
 · rw [zhb h] at c1 ⊢;try omega
 rw [zf0 h] at c1 ⊢;try omega
def zax:DTerm:=.mk 0 0 (ByteArray.mk #[]) []
def workT (names:List ByteArray) (vals:List Int):Nat→DTerm→Int
 | n,t=>if t.kind=1 then t.num%1000 else if t.kind=2 then (if 0≤plc t.name names∧plc t.name names<vals.length then vals.getD (plc t.name names).toNat 0%1000 else 0) else
   match n with
   | 0=>0
   | m+1=>
     if t.kind=8 then (if workT names vals m (t.kids.getD 0 zax)=0 then 1 else 0)
     else if t.kind=3 then (workT names vals m (t.kids.getD 0 zax)+workT names vals m (t.kids.getD 1 zax))%1000
     else if t.kind=4 then (workT names vals m (t.kids.getD 0 zax)-workT names vals m (t.kids.getD 1 zax))%1000
     else if t.kind=5 then (workT names vals m (t.kids.getD 0 zax)*workT names vals m (t.kids.getD 1 zax))%1000
     else if t.kind=6 then (if workT names vals m (t.kids.getD 0 zax)<workT names vals m (t.kids.getD 1 zax) then 1 else 0)
     else if t.kind=7 then (if workT names vals m (t.kids.getD 0 zax)=workT names vals m (t.kids.getD 1 zax) then 1 else 0)
     else (if workT names vals m (t.kids.getD 0 zax)≠0∧workT names vals m (t.kids.getD 1 zax)≠0 then 1 else 0)
theorem zaH (names:List ByteArray) (vals:List Int) (n:Nat) (t:DTerm):workT names vals n t=(if t.kind=1 then t.num%1000 else if t.kind=2 then (if 0≤plc t.name names∧plc t.name names<vals.length then vals.getD (plc t.name names).toNat 0%1000 else 0) else
   match n with
   | 0=>0
   | m+1=>
     if t.kind=8 then (if workT names vals m (t.kids.getD 0 zax)=0 then 1 else 0)
     else if t.kind=3 then (workT names vals m (t.kids.getD 0 zax)+workT names vals m (t.kids.getD 1 zax))%1000
     else if t.kind=4 then (workT names vals m (t.kids.getD 0 zax)-workT names vals m (t.kids.getD 1 zax))%1000
     else if t.kind=5 then (workT names vals m (t.kids.getD 0 zax)*workT names vals m (t.kids.getD 1 zax))%1000
     else if t.kind=6 then (if workT names vals m (t.kids.getD 0 zax)<workT names vals m (t.kids.getD 1 zax) then 1 else 0)
     else if t.kind=7 then (if workT names vals m (t.kids.getD 0 zax)=workT names vals m (t.kids.getD 1 zax) then 1 else 0)
     else (if workT names vals m (t.kids.getD 0 zax)≠0∧workT names vals m (t.kids.getD 1 zax)≠0 then 1 else 0)):=workT.eq_def names vals n t
theorem zcv (names:List ByteArray) (vals:List Int) (n:Nat) (t:DTerm):0≤workT names vals n t∧workT names vals n t≤999:=by
 rw [zaH]
 cases n<;>simp only<;>(repeat' split)<;>omega
theorem zog {n:Nat} {t:DTerm} (h:zaI n t=true) (h1:¬t.kind=1) (h2:¬t.kind=2):∃ m,n=m+1∧0<t.kids.length∧zaI m (t.kids.getD 0 zax)=true∧(¬t.kind=8→1<t.kids.length∧zaI m (t.kids.getD 1 zax)=true):=by
 rw [zaX h1 h2] at h
 simp only [Bool.and_eq_true,decide_eq_true_eq] at h
 obtain ⟨⟨_,h3⟩,h4⟩:=h
 cases n with
 | zero=>simp at h4
 | succ m=>
   have hall:∀ k∈t.kids,zaI m k=true:=fun k hk=>List.all_eq_true.1 h4 k hk
   have hg:∀ i,i<t.kids.length→zaI m (t.kids.getD i zax)=true:=fun i hi=>by
     rw [List.getD_eq_getElem?_getD,List.getElem?_eq_getElem hi];exact hall _ (List.getElem_mem hi)
   have hpos:0<t.kids.length:=by split at h3<;>omega
   exact ⟨m,rfl,hpos,hg 0 hpos,fun h8=>by rw [if_neg h8] at h3;exact ⟨by omega,hg 1 (by omega)⟩⟩
def zpc (f:Nat) (n:Nat):Prop:=∀ {w W W1 W2:World} {v v1 v2:Value} {t:DTerm} {names:List ByteArray} {vals:List Int},Is W v t→Ext W w→Is W1 v1 names→Ext W1 w→Is W2 v2 vals→Ext W2 w→zaI n t=true →
 CALL Tryz.prog f [v,v1,v2] w fun r w'=>Ext w w'∧r=.int .i64 (workT names vals n t)
def F140 (a0 a1 a2:Value) (w:World) (R:VW):Prop:=
 oP (Instr.box 75 a0) w fun x3 w=>
 rF 75 x3 0 w fun x10=>
 rL 3 x10 w fun x11=>
 rB .eql 3 T0 U0 x11 (iV 1) w fun x13=>
 BR x13
 (rF 75 x3 1 w fun x14=>
 rL 3 x14 w fun x15=>
 cL 209 [x15] w fun x16 w=>
 R x16 w)
 (rB .eql 3 T0 U0 x11 (iV 2) w fun x18=>
 BR x18
 (rF 75 x3 2 w fun x20=>
 rL 9 x20 w fun x21=>
 cL 134 [a1,x21] w fun x22 w=>
 rB .lss 3 T0 U0 x22 (iV 0) w fun x24=>
 BR x24
 (R (iV 0) w)
 (rN 25 3 a2 w fun x28=>
 rB .geq 3 T0 T0 x22 x28 w fun x29=>
 BR x29
 (R (iV 0) w)
 (rX 25 a2 x22 w fun x33=>
 rL 3 x33 w fun x34=>
 cL 209 [x34] w fun x35 w=>
 R x35 w)))
 (rF 75 x3 3 w fun x36=>
 rL 73 x36 w fun x37=>
 rX 73 x37 (iV 0) w fun x38=>
 rL 75 x38 w fun x39=>
 cL 140 [x39,a1,a2] w fun x42 w=>
 rF 75 x3 0 w fun x43=>
 rL 3 x43 w fun x44=>
 rB .eql 3 T0 U0 x44 (iV 8) w fun x45=>
 BR x45
 (rB .eql 3 T0 U0 x42 (iV 0) w fun x47=>
 cL 210 [x47] w fun x48 w=>
 R x48 w)
 (rF 75 x3 3 w fun x49=>
 rL 73 x49 w fun x50=>
 rX 73 x50 (iV 1) w fun x51=>
 rL 75 x51 w fun x52=>
 cL 140 [x52,a1,a2] w fun x55 w=>
 rF 75 x3 0 w fun x56=>
 rL 3 x56 w fun x57=>
 rB .eql 3 T0 U0 x57 (iV 3) w fun x59=>
 BR x59
 (rB .add 3 T0 T0 x42 x55 w fun x62=>
 cL 209 [x62] w fun x63 w=>
 R x63 w)
 (rB .eql 3 T0 U0 x57 (iV 4) w fun x65=>
 BR x65
 (rB .sub 3 T0 T0 x42 x55 w fun x68=>
 cL 209 [x68] w fun x69 w=>
 R x69 w)
 (rB .eql 3 T0 U0 x57 (iV 5) w fun x71=>
 BR x71
 (rB .mul 3 T0 T0 x42 x55 w fun x74=>
 cL 209 [x74] w fun x75 w=>
 R x75 w)
 (rB .eql 3 T0 U0 x57 (iV 6) w fun x77=>
 BR x77
 (rC x42 x55 w fun x80=>
 cL 210 [x80] w fun x81 w=>
 R x81 w)
 (rB .eql 3 T0 U0 x57 (iV 7) w fun x83=>
 BR x83
 (rB .eql 3 T0 T0 x42 x55 w fun x86=>
 cL 210 [x86] w fun x87 w=>
 R x87 w)
 (rB .neq 3 T0 U0 x42 (iV 0) w fun x89=>
 BR x89
 (rB .neq 3 T0 U0 x55 (iV 0) w fun x92=>
 cL 210 [x92] w fun x94 w=>
 R x94 w)
 (cL 210 [(Value.bool false)] w fun x94 w=>
 R x94 w)))))))))
def cfg140:Cfg:=⟨extL,[],[],[],[],[],[]⟩
theorem F140_call {a0 a1 a2:Value} {w:World} {R:VW} (h:F140 a0 a1 a2 w R):cL 140 [a0,a1,a2] w R:=co (g:=cfg140) Tryz.func140 (by kernel_rfl) (by kernel_rfl) (by kernel_rfl) h
theorem zgR {w:World} {v0:Value} {W0:World} {t:DTerm} {v1:Value} {W1:World} {names:(List ByteArray)} {v2:Value} {W2:World} {vals:(List Int)} {n:Nat} (h0:Is W0 v0 t) (e0:Ext W0 w) (h1:Is W1 v1 names) (e1:Ext W1 w) (h2:Is W2 v2 vals) (e2:Ext W2 w) (ih:∀ m,n=m+1→zpc 140 m) (hok:zaI n t=true) :
   CALL Tryz.prog 140 [v0,v1,v2] w fun r w'=>Ext w w'∧(r=.int .i64 (workT names vals n t)):=by
 refine F140_call ?_
 unfold F140
 refine zap zb6 rfl h0 e0 fun w1_ hx1_ hA3 hV3=>?_
 refine zaa zdi ?_
 refine zac ty3 (za4 hA3) (Ext.refl w1_) fun hI11=>?_
 refine zag ?_
 refine br (fun c1=>?_) (fun c1=>?_)
 · refine zaa zd2 ?_
   refine zac ty3 (zbn hA3) (Ext.refl w1_) fun hI15=>?_
   refine (zhP (by first | assumption | (unfold I64 at *;omega))).mono ?_
   rintro _ w2_ ⟨hx2_,rfl⟩
   refine ⟨(hx1_.trans hx2_),?_⟩
   rw [zaH names vals n t,if_pos c1]
 refine zag ?_
 refine br (fun c2=>?_) (fun c2=>?_)
 · refine zaa zdx ?_
   refine zam ty9 (zbd hA3) (Ext.refl w1_) fun hS21=>?_
   refine (zfo h1 (e1.trans hx1_)).mono ?_
   rintro _ w3_ ⟨hx3_,rfl⟩
   refine zai ?_
   refine br (fun c3=>?_) (fun c3=>?_)
   · refine ⟨(hx1_.trans hx3_),?_⟩
     rw [zaH,if_neg c1,if_pos c2,if_neg (by omega)]
   have hln28:=zaf h2
   refine zae u25 h2 ?_
   refine zbP ?_
   refine br (fun c4=>?_) (fun c4=>?_)
   · refine ⟨(hx1_.trans hx3_),?_⟩
     rw [zaH,if_neg c1,if_pos c2,if_neg (by omega)]
   refine zas u25 ty3 h2 (by omega) (by omega) fun b33 o33 h33=>?_
   refine zac ty3 h33 (e2.trans (hx1_.trans hx3_)) fun hI34=>?_
   refine (zhP (by first | assumption | (unfold I64 at *;omega))).mono ?_
   rintro _ w4_ ⟨hx4_,rfl⟩
   refine ⟨(hx1_.trans (hx3_.trans hx4_)),?_⟩
   rw [zaH,if_neg c1,if_pos c2,if_pos (by omega)]
   congr 1
   rw [List.getD_eq_getElem?_getD,List.getElem?_eq_getElem (by omega)];rfl
 refine zaa zbu ?_
 refine zab zfx (zay hA3) (Ext.refl w1_) fun v37 h37=>?_
 obtain ⟨m,hn1,hk0,hok0,hk1⟩:=zog hok c1 c2
 have hw0:=zcv names vals m (t.kids.getD 0 zax)
 have hw1:=zcv names vals m (t.kids.getD 1 zax)
 refine zas u73 zb6 h37 (by omega) (by omega) fun b38 o38 h38=>?_
 have hgd:t.kids[(0:Int).toNat]'(by simpa using hk0)=t.kids.getD 0 zax:=by rw [List.getD_eq_getElem?_getD,List.getElem?_eq_getElem hk0];rfl
 rw [hgd] at h38
 refine zab zb6 h38 (Ext.refl w1_) fun v39 h39=>?_
 refine (ih m hn1 h39 (Ext.refl w1_) h1 (e1.trans hx1_) h2 (e2.trans hx1_) (by assumption)).mono ?_
 rintro _ w5_ ⟨hx5_,rfl⟩
 refine zaa zdi ?_
 refine zac ty3 (za4 hA3) hx5_ fun hI44=>?_
 refine zag ?_
 refine br (fun c5=>?_) (fun c5=>?_)
 · refine zag ?_
   refine (zf1 ).mono ?_
   rintro _ w6_ ⟨hx6_,rfl⟩
   refine ⟨(hx1_.trans (hx5_.trans hx6_)),?_⟩
   rw [zaH names vals n t,if_neg c1,if_neg c2,hn1]
   simp only [c5,if_true,decide_eq_true_eq]
 refine zaa zbu ?_
 refine zab zfx (zay hA3) hx5_ fun v50 h50=>?_
 obtain ⟨hk2,hok1⟩:=hk1 c5
 refine zas u73 zb6 h50 (by omega) (by omega) fun b51 o51 h51=>?_
 have hgd1:t.kids[(1:Int).toNat]'(by simpa using hk2)=t.kids.getD 1 zax:=by rw [List.getD_eq_getElem?_getD,List.getElem?_eq_getElem hk2];rfl
 rw [hgd1] at h51
 refine zab zb6 h51 hx5_ fun v52 h52=>?_
 refine (ih m hn1 h52 hx5_ h1 (e1.trans (hx1_.trans hx5_)) h2 (e2.trans (hx1_.trans hx5_)) (by assumption)).mono ?_
 rintro _ w7_ ⟨hx7_,rfl⟩
 refine zaa zdi ?_
 refine zac ty3 (za4 hA3) (hx5_.trans hx7_) fun hI57=>?_
 refine zag ?_
 refine br (fun c6=>?_) (fun c6=>?_)
 · refine zb3 (by unfold I64;omega) ?_
   refine (zhP (by first | assumption | (unfold I64 at *;omega))).mono ?_
   rintro _ w8_ ⟨hx8_,rfl⟩
   refine ⟨(hx1_.trans (hx5_.trans (hx7_.trans hx8_))),?_⟩
   rw [zaH names vals n t,if_neg c1,if_neg c2,hn1]
   dsimp only
   generalize workT names vals m (t.kids.getD 0 zax)=a at *
   generalize workT names vals m (t.kids.getD 1 zax)=b at *
   simp_all
 refine zag ?_
 refine br (fun c7=>?_) (fun c7=>?_)
 · refine za8 (by unfold I64;omega) ?_
   refine (zhP (by first | assumption | (unfold I64 at *;omega))).mono ?_
   rintro _ w9_ ⟨hx9_,rfl⟩
   refine ⟨(hx1_.trans (hx5_.trans (hx7_.trans hx9_))),?_⟩
   rw [zaH names vals n t,if_neg c1,if_neg c2,hn1]
   dsimp only
   generalize workT names vals m (t.kids.getD 0 zax)=a at *
   generalize workT names vals m (t.kids.getD 1 zax)=b at *
   simp_all
 refine zag ?_
 refine br (fun c8=>?_) (fun c8=>?_)
 · refine zid (by unfold I64;have h1:=Int.mul_nonneg hw0.1 hw1.1;have h2:=Int.mul_le_mul hw0.2 hw1.2 hw1.1 (by omega:(0:Int)≤999);omega) ?_
   have hmul:=Int.mul_nonneg hw0.1 hw1.1;have hmul2:=Int.mul_le_mul hw0.2 hw1.2 hw1.1 (by omega:(0:Int)≤999)
   refine (zhP (by first | assumption | (unfold I64 at *;omega))).mono ?_
   rintro _ w10_ ⟨hx10_,rfl⟩
   refine ⟨(hx1_.trans (hx5_.trans (hx7_.trans hx10_))),?_⟩
   rw [zaH names vals n t,if_neg c1,if_neg c2,hn1]
   dsimp only
   generalize workT names vals m (t.kids.getD 0 zax)=a at *
   generalize workT names vals m (t.kids.getD 1 zax)=b at *
   simp_all
 refine zag ?_
 refine br (fun c9=>?_) (fun c9=>?_)
 · refine zai ?_
   refine (zf1 ).mono ?_
   rintro _ w11_ ⟨hx11_,rfl⟩
   refine ⟨(hx1_.trans (hx5_.trans (hx7_.trans hx11_))),?_⟩
   rw [zaH names vals n t,if_neg c1,if_neg c2,hn1]
   dsimp only
   generalize workT names vals m (t.kids.getD 0 zax)=a at *
   generalize workT names vals m (t.kids.getD 1 zax)=b at *
   simp_all
 refine zag ?_
 refine br (fun c10=>?_) (fun c10=>?_)
 · refine zag ?_
   refine (zf1 ).mono ?_
   rintro _ w12_ ⟨hx12_,rfl⟩
   refine ⟨(hx1_.trans (hx5_.trans (hx7_.trans hx12_))),?_⟩
   rw [zaH names vals n t,if_neg c1,if_neg c2,hn1]
   dsimp only
   generalize workT names vals m (t.kids.getD 0 zax)=a at *
   generalize workT names vals m (t.kids.getD 1 zax)=b at *
   simp_all
 refine zaY ?_
 refine br (fun c11=>?_) (fun c11=>?_)
 · refine zaY ?_
   refine (zf1 ).mono ?_
   rintro _ w13_ ⟨hx13_,rfl⟩
   refine ⟨(hx1_.trans (hx5_.trans (hx7_.trans hx13_))),?_⟩
   rw [zaH names vals n t,if_neg c1,if_neg c2,hn1]
   dsimp only
   generalize workT names vals m (t.kids.getD 0 zax)=a at *
   generalize workT names vals m (t.kids.getD 1 zax)=b at *
   simp_all
 refine (zf1 ).mono ?_
 rintro _ w14_ ⟨hx14_,rfl⟩
 refine ⟨(hx1_.trans (hx5_.trans (hx7_.trans hx14_))),?_⟩
 rw [zaH names vals n t,if_neg c1,if_neg c2,hn1]
 dsimp only
 generalize workT names vals m (t.kids.getD 0 zax)=a at *
 generalize workT names vals m (t.kids.getD 1 zax)=b at *
 simp_all
theorem zix (n:Nat):zpc 140 n:=by
 induction n with
 | zero=>intro w W W1 W2 v v1 v2 t names vals h e h1 e1 h2 e2 hok;exact zgR h e h1 e1 h2 e2 (fun m hm=>by omega) hok
 | succ n ih=>intro w W W1 W2 v v1 v2 t names vals h e h1 e1 h2 e2 hok;exact zgR h e h1 e1 h2 e2 (fun m hm=>Nat.succ.inj hm▸ih) hok
def F217 (a0 a1 a2:Value) (w:World) (R:VW):Prop:=
 oP (Instr.box 75 a0) w fun x3 w=>
 rF 75 x3 0 w fun x10=>
 rL 3 x10 w fun x11=>
 rB .eql 3 T0 U0 x11 (iV 1) w fun x13=>
 BR x13
 (rF 75 x3 1 w fun x14=>
 rL 3 x14 w fun x15=>
 cL 264 [x15] w fun x16 w=>
 R x16 w)
 (rB .eql 3 T0 U0 x11 (iV 2) w fun x18=>
 BR x18
 (LOOPI [7] [(iV 0)] w fun u6 w next6=>
 rN 24 3 a1 w fun x21=>
 rC (u6 7) x21 w fun x22=>
 BR x22
 ((fun w=>rX 24 a1 (u6 7) w fun x27=>
 rL 9 x27 w fun x28=>
 rF 75 x3 2 w fun x29=>
 rL 9 x29 w fun x30=>
 rB .eql 9 T0 T0 x28 x30 w fun x31=>
 BR x31
 (rN 25 3 a2 w fun x34=>
 rC (u6 7) x34 w fun x35=>
 BR x35
 (rX 25 a2 (u6 7) w fun x38=>
 rL 3 x38 w fun x39=>
 cL 264 [x39] w fun x40 w=>
 R x40 w)
 (R (iV 0) w))
 (rA (u6 7) (iV 1) w fun x24=>
 next6 [x24] w)) (World.drew1 w))
 (R (iV 0) w))
 (rF 75 x3 3 w fun x41=>
 rL 73 x41 w fun x42=>
 rX 73 x42 (iV 0) w fun x43=>
 rL 75 x43 w fun x44=>
 cL 217 [x44,a1,a2] w fun x47 w=>
 rF 75 x3 0 w fun x48=>
 rL 3 x48 w fun x49=>
 rB .eql 3 T0 U0 x49 (iV 8) w fun x50=>
 BR x50
 (rB .eql 3 T0 U0 x47 (iV 0) w fun x52=>
 cL 265 [x52] w fun x53 w=>
 R x53 w)
 (rF 75 x3 3 w fun x54=>
 rL 73 x54 w fun x55=>
 rX 73 x55 (iV 1) w fun x56=>
 rL 75 x56 w fun x57=>
 cL 217 [x57,a1,a2] w fun x60 w=>
 rF 75 x3 0 w fun x61=>
 rL 3 x61 w fun x62=>
 rB .eql 3 T0 U0 x62 (iV 3) w fun x64=>
 BR x64
 (rB .add 3 T0 T0 x47 x60 w fun x67=>
 cL 264 [x67] w fun x68 w=>
 R x68 w)
 (rB .eql 3 T0 U0 x62 (iV 4) w fun x70=>
 BR x70
 (rB .sub 3 T0 T0 x47 x60 w fun x73=>
 cL 264 [x73] w fun x74 w=>
 R x74 w)
 (rB .eql 3 T0 U0 x62 (iV 5) w fun x76=>
 BR x76
 (rB .mul 3 T0 T0 x47 x60 w fun x79=>
 cL 264 [x79] w fun x80 w=>
 R x80 w)
 (rB .eql 3 T0 U0 x62 (iV 6) w fun x82=>
 BR x82
 (rC x47 x60 w fun x85=>
 cL 265 [x85] w fun x86 w=>
 R x86 w)
 (rB .eql 3 T0 U0 x62 (iV 7) w fun x88=>
 BR x88
 (rB .eql 3 T0 T0 x47 x60 w fun x91=>
 cL 265 [x91] w fun x92 w=>
 R x92 w)
 (rB .neq 3 T0 U0 x47 (iV 0) w fun x94=>
 BR x94
 (rB .neq 3 T0 U0 x60 (iV 0) w fun x97=>
 cL 265 [x97] w fun x99 w=>
 R x99 w)
 (cL 265 [(Value.bool false)] w fun x99 w=>
 R x99 w)))))))))
def cfg217:Cfg:=⟨extL,[],[(6,2199022731456,[7])],[(8,[0,1,2,3,4,5,6],0)],[],[],[]⟩
theorem F217_call {a0 a1 a2:Value} {w:World} {R:VW} (h:F217 a0 a1 a2 w R):cL 217 [a0,a1,a2] w R:=co (g:=cfg217) Tryz.func217 (by kernel_rfl) (by kernel_rfl) (by kernel_rfl) h
theorem zgS {w:World} {v0:Value} {W0:World} {t:DTerm} {v1:Value} {W1:World} {names:(List ByteArray)} {v2:Value} {W2:World} {vals:(List Int)} {n:Nat} (h0:Is W0 v0 t) (e0:Ext W0 w) (h1:Is W1 v1 names) (e1:Ext W1 w) (h2:Is W2 v2 vals) (e2:Ext W2 w) (ih:∀ m,n=m+1→zpc 217 m) (hok:zaI n t=true) :
   CALL Tryz.prog 217 [v0,v1,v2] w fun r w'=>Ext w w'∧(r=.int .i64 (workT names vals n t)):=by
 refine F217_call ?_
 unfold F217
 refine zap zb6 rfl h0 e0 fun w1_ hx1_ hA3 hV3=>?_
 refine zaa zdi ?_
 refine zac ty3 (za4 hA3) (Ext.refl w1_) fun hI11=>?_
 refine zag ?_
 refine br (fun c1=>?_) (fun c1=>?_)
 · refine zaa zd2 ?_
   refine zac ty3 (zbn hA3) (Ext.refl w1_) fun hI15=>?_
   refine (zeN (by first | assumption | (unfold I64 at *;omega))).mono ?_
   rintro _ w2_ ⟨hx2_,rfl⟩
   refine ⟨(hx1_.trans hx2_),?_⟩
   rw [zaH names vals n t,if_pos c1]
 refine zag ?_
 refine br (fun c2=>?_) (fun c2=>?_)
 · refine zaF (names.length) (fun k us w'=>us=[.int .i64 (k:Int)]∧Ext w1_ w'∧(t.name∉names.take k)) (0) (by omega) ⟨by simp,Ext.refl w1_,by simp⟩ ?_
   rintro k m6 uu6 w3_ hk6 ⟨hu,hx3_,hinv⟩
   simp only [List.map_cons,List.map_nil,List.cons.injEq,and_true] at hu
   try rw [hu]
   try clear hu
   have hnl:=zaf h1
   have hln21:=zaf h1
   refine zae u24 h1 ?_
   refine zai ?_
   refine br (fun c3=>?_) (fun c3=>?_)
   · have hx4_:=zah w3_
     refine zad u24 ty9 h1 (by omega) fun b27 o27 h27=>?_
     refine zam ty9 h27 (e1.trans (hx1_.trans (hx3_.trans hx4_))) fun hS28=>?_
     refine zaa zdx ?_
     refine zam ty9 (zbd hA3) (hx3_.trans hx4_) fun hS30=>?_
     refine zaG ?_
     refine br (fun c4=>?_) (fun c4=>?_)
     · have hln34:=zaf h2
       refine zae u25 h2 ?_
       refine zai ?_
       refine br (fun c5=>?_) (fun c5=>?_)
       · refine zad u25 ty3 h2 (by omega) fun b38 o38 h38=>?_
         refine zac ty3 h38 (e2.trans (hx1_.trans (hx3_.trans hx4_))) fun hI39=>?_
         refine (zeN (by first | assumption | (unfold I64 at *;omega))).mono ?_
         rintro _ w5_ ⟨hx5_,rfl⟩
         refine ⟨(hx1_.trans (hx3_.trans (hx4_.trans hx5_))),?_⟩
         have hp:=zik (s:=t.name) (l:=names) (k:=k) (by omega) hinv c4
         rw [zaH names vals n t,if_neg c1,if_pos c2,hp,if_pos (by omega)]
         congr 1
         rw [Int.toNat_natCast,List.getD_eq_getElem?_getD,List.getElem?_eq_getElem (by omega)];rfl
       refine ⟨(hx1_.trans (hx3_.trans hx4_)),?_⟩
       have hp:=zik (s:=t.name) (l:=names) (k:=k) (by omega) hinv c4
       rw [zaH names vals n t,if_neg c1,if_pos c2,hp,if_neg (by omega)]
     refine zal (by omega) ?_
     refine ⟨m6-1,by omega,k+1,by omega,by simp,(hx3_.trans hx4_),?_⟩
     exact zb0 (by omega) hinv c4
   refine ⟨(hx1_.trans hx3_),?_⟩
   rw [List.take_of_length_le (by omega)] at hinv
   rw [zaH names vals n t,if_neg c1,if_pos c2,zg5 hinv,if_neg (by omega)]
 refine zaa zbu ?_
 refine zab zfx (zay hA3) (Ext.refl w1_) fun v42 h42=>?_
 obtain ⟨m,hn1,hk0,hok0,hk1⟩:=zog hok c1 c2
 have hw0:=zcv names vals m (t.kids.getD 0 zax)
 have hw1:=zcv names vals m (t.kids.getD 1 zax)
 refine zas u73 zb6 h42 (by omega) (by omega) fun b43 o43 h43=>?_
 have hgd:t.kids[(0:Int).toNat]'(by simpa using hk0)=t.kids.getD 0 zax:=by rw [List.getD_eq_getElem?_getD,List.getElem?_eq_getElem hk0];rfl
 rw [hgd] at h43
 refine zab zb6 h43 (Ext.refl w1_) fun v44 h44=>?_
 refine (ih m hn1 h44 (Ext.refl w1_) h1 (e1.trans hx1_) h2 (e2.trans hx1_) (by assumption)).mono ?_
 rintro _ w6_ ⟨hx6_,rfl⟩
 refine zaa zdi ?_
 refine zac ty3 (za4 hA3) hx6_ fun hI49=>?_
 refine zag ?_
 refine br (fun c6=>?_) (fun c6=>?_)
 · refine zag ?_
   refine (zeM ).mono ?_
   rintro _ w7_ ⟨hx7_,rfl⟩
   refine ⟨(hx1_.trans (hx6_.trans hx7_)),?_⟩
   rw [zaH names vals n t,if_neg c1,if_neg c2,hn1]
   simp only [c6,if_true,decide_eq_true_eq]
 refine zaa zbu ?_
 refine zab zfx (zay hA3) hx6_ fun v55 h55=>?_
 obtain ⟨hk2,hok1⟩:=hk1 c6
 refine zas u73 zb6 h55 (by omega) (by omega) fun b56 o56 h56=>?_
 have hgd1:t.kids[(1:Int).toNat]'(by simpa using hk2)=t.kids.getD 1 zax:=by rw [List.getD_eq_getElem?_getD,List.getElem?_eq_getElem hk2];rfl
 rw [hgd1] at h56
 refine zab zb6 h56 hx6_ fun v57 h57=>?_
 refine (ih m hn1 h57 hx6_ h1 (e1.trans (hx1_.trans hx6_)) h2 (e2.trans (hx1_.trans hx6_)) (by assumption)).mono ?_
 rintro _ w8_ ⟨hx8_,rfl⟩
 refine zaa zdi ?_
 refine zac ty3 (za4 hA3) (hx6_.trans hx8_) fun hI62=>?_
 refine zag ?_
 refine br (fun c7=>?_) (fun c7=>?_)
 · refine zb3 (by unfold I64;omega) ?_
   refine (zeN (by first | assumption | (unfold I64 at *;omega))).mono ?_
   rintro _ w9_ ⟨hx9_,rfl⟩
   refine ⟨(hx1_.trans (hx6_.trans (hx8_.trans hx9_))),?_⟩
   rw [zaH names vals n t,if_neg c1,if_neg c2,hn1]
   dsimp only
   generalize workT names vals m (t.kids.getD 0 zax)=a at *
   generalize workT names vals m (t.kids.getD 1 zax)=b at *
   simp_all
 refine zag ?_
 refine br (fun c8=>?_) (fun c8=>?_)
 · refine za8 (by unfold I64;omega) ?_
   refine (zeN (by first | assumption | (unfold I64 at *;omega))).mono ?_
   rintro _ w10_ ⟨hx10_,rfl⟩
   refine ⟨(hx1_.trans (hx6_.trans (hx8_.trans hx10_))),?_⟩
   rw [zaH names vals n t,if_neg c1,if_neg c2,hn1]
   dsimp only
   generalize workT names vals m (t.kids.getD 0 zax)=a at *
   generalize workT names vals m (t.kids.getD 1 zax)=b at *
   simp_all
 refine zag ?_
 refine br (fun c9=>?_) (fun c9=>?_)
 · refine zid (by unfold I64;have h1:=Int.mul_nonneg hw0.1 hw1.1;have h2:=Int.mul_le_mul hw0.2 hw1.2 hw1.1 (by omega:(0:Int)≤999);omega) ?_
   have hmul:=Int.mul_nonneg hw0.1 hw1.1;have hmul2:=Int.mul_le_mul hw0.2 hw1.2 hw1.1 (by omega:(0:Int)≤999)
   refine (zeN (by first | assumption | (unfold I64 at *;omega))).mono ?_
   rintro _ w11_ ⟨hx11_,rfl⟩
   refine ⟨(hx1_.trans (hx6_.trans (hx8_.trans hx11_))),?_⟩
   rw [zaH names vals n t,if_neg c1,if_neg c2,hn1]
   dsimp only
   generalize workT names vals m (t.kids.getD 0 zax)=a at *
   generalize workT names vals m (t.kids.getD 1 zax)=b at *
   simp_all
 refine zag ?_
 refine br (fun c10=>?_) (fun c10=>?_)
 · refine zai ?_
   refine (zeM ).mono ?_
   rintro _ w12_ ⟨hx12_,rfl⟩
   refine ⟨(hx1_.trans (hx6_.trans (hx8_.trans hx12_))),?_⟩
   rw [zaH names vals n t,if_neg c1,if_neg c2,hn1]
   dsimp only
   generalize workT names vals m (t.kids.getD 0 zax)=a at *
   generalize workT names vals m (t.kids.getD 1 zax)=b at *
   simp_all
 refine zag ?_
 refine br (fun c11=>?_) (fun c11=>?_)
 · refine zag ?_
   refine (zeM ).mono ?_
   rintro _ w13_ ⟨hx13_,rfl⟩
   refine ⟨(hx1_.trans (hx6_.trans (hx8_.trans hx13_))),?_⟩
   rw [zaH names vals n t,if_neg c1,if_neg c2,hn1]
   dsimp only
   generalize workT names vals m (t.kids.getD 0 zax)=a at *
   generalize workT names vals m (t.kids.getD 1 zax)=b at *
   simp_all
 refine zaY ?_
 refine br (fun c12=>?_) (fun c12=>?_)
 · refine zaY ?_
   refine (zeM ).mono ?_
   rintro _ w14_ ⟨hx14_,rfl⟩
   refine ⟨(hx1_.trans (hx6_.trans (hx8_.trans hx14_))),?_⟩
   rw [zaH names vals n t,if_neg c1,if_neg c2,hn1]
   dsimp only
   generalize workT names vals m (t.kids.getD 0 zax)=a at *
   generalize workT names vals m (t.kids.getD 1 zax)=b at *
   simp_all
 refine (zeM ).mono ?_
 rintro _ w15_ ⟨hx15_,rfl⟩
 refine ⟨(hx1_.trans (hx6_.trans (hx8_.trans hx15_))),?_⟩
 rw [zaH names vals n t,if_neg c1,if_neg c2,hn1]
 dsimp only
 generalize workT names vals m (t.kids.getD 0 zax)=a at *
 generalize workT names vals m (t.kids.getD 1 zax)=b at *
 simp_all
theorem zmP (n:Nat):zpc 217 n:=by
 induction n with
 | zero=>intro w W W1 W2 v v1 v2 t names vals h e h1 e1 h2 e2 hok;exact zgS h e h1 e1 h2 e2 (fun m hm=>by omega) hok
 | succ n ih=>intro w W W1 W2 v v1 v2 t names vals h e h1 e1 h2 e2 hok;exact zgS h e h1 e1 h2 e2 (fun m hm=>Nat.succ.inj hm▸ih) hok
def F144 (a0 a1 a2:Value) (w:World) (R:VW):Prop:=
 oP (Instr.box 75 a0) w fun x3 w=>
 rL 75 x3 w fun x7=>
 cL 214 [x7] w fun x8 w=>
 rD (Op.unary .not x8) w fun x9=>
 BR x9
 (R (iV 0) w)
 (rL 75 x3 w fun x10=>
 cL 217 [x10,a1,a2] w fun x13 w=>
 R x13 w)
def cfg144:Cfg:=⟨extL,[],[],[],[],[],[]⟩
theorem F144_call {a0 a1 a2:Value} {w:World} {R:VW} (h:F144 a0 a1 a2 w R):cL 144 [a0,a1,a2] w R:=co (g:=cfg144) Tryz.func144 (by kernel_rfl) (by kernel_rfl) (by kernel_rfl) h
theorem zf2 {w:World} {v0:Value} {W0:World} {t:DTerm} {v1:Value} {W1:World} {names:(List ByteArray)} {v2:Value} {W2:World} {vals:(List Int)}  (h0:Is W0 v0 t) (e0:Ext W0 w) (h1:Is W1 v1 names) (e1:Ext W1 w) (h2:Is W2 v2 vals) (e2:Ext W2 w) (hok:zaI 6 t=true) :
   CALL Tryz.prog 144 [v0,v1,v2] w fun r w'=>Ext w w'∧(r=.int .i64 (workT names vals 6 t)):=by
 refine F144_call ?_
 unfold F144
 refine zap zb6 rfl h0 e0 fun w1_ hx1_ hA3 hV3=>?_
 refine zaB hV3 (Ext.refl w1_) ?_
 refine (zbS h0 (e0.trans hx1_)).mono ?_
 rintro _ w2_ ⟨hx2_,rfl⟩
 refine zbt ?_
 refine zdN (fun c1=>?_) (fun c1=>?_)
 · refine ⟨(hx1_.trans hx2_),?_⟩
   simp [hok] at c1
 refine zaB hV3 hx2_ ?_
 refine (zmP 6 h0 (e0.trans (hx1_.trans hx2_)) h1 (e1.trans (hx1_.trans hx2_)) h2 (e2.trans (hx1_.trans hx2_)) (by assumption)).mono ?_
 rintro _ w3_ ⟨hx3_,rfl⟩
 refine ⟨(hx1_.trans (hx2_.trans hx3_)),?_⟩
 rfl
def F80 (a0 a1 a2:Value) (w:World) (R:VW):Prop:=
 oP (Instr.box 28 a0) w fun x3 w=>
 oP (Instr.box 33 a1) w fun x4 w=>
 oP (Instr.alloc 33 true (.tuple #[])) w fun x6 w=>
 rL 33 x4 w fun x12=>
 cL 79 [x12] w fun x13 w=>
 oP (Instr.alloc 33 true (.tuple #[])) w fun x7 w=>
 oS 33 x7 x13 w fun w=>
 rF 33 x7 2 w fun x14=>
 rL 31 x14 w fun x15=>
 rX 31 x15 a2 w fun x17=>
 rL 25 x17 w fun x18=>
 rN 25 3 x18 w fun x20=>
 rB .sub 3 T0 U0 x20 (iV 1) w fun x21=>
 (fun w=>rF 28 x3 4 w fun x22=>
 rL 26 x22 w fun x23=>
 rX 25 x18 x21 w fun x26=>
 rL 3 x26 w fun x27=>
 rX 26 x23 x27 w fun x28=>
 rL 77 x28 w fun x29=>
 (fun w_=>oP (Instr.alloc 77 true (.tuple #[])) w_ fun x10 w=>
 Ext w_ w ∧
 (oS 77 x10 x29 w fun w=>
 rX 25 x18 x21 w fun x32=>
 rL 3 x32 w fun x33=>
 rA x33 (iV 1) w fun x34=>
 JOIN [11] (fun J30=>
 rF 77 x10 0 w fun x35=>
 rL 3 x35 w fun x36=>
 rB .eql 3 T0 U0 x36 (iV 1) w fun x38=>
 BR x38
 ((fun w=>rF 33 x7 0 w fun x39=>
 rL 25 x39 w fun x40=>
 rF 77 x10 1 w fun x41=>
 rL 3 x41 w fun x42=>
 rF 77 x10 2 w fun x43=>
 rL 75 x43 w fun x44=>
 rF 28 x3 0 w fun x45=>
 rL 24 x45 w fun x46=>
 rF 33 x4 0 w fun x47=>
 rL 25 x47 w fun x48=>
 (fun w_=>cL 140 [x44,x46,x48] w_ fun x49 w=>
 Ext w_ w ∧
 rX 25 x40 x42 w fun x50=>
 oS 3 x50 x49 w fun w=>
 J30 [x34] w) w) (World.drew1 w))
 (rB .eql 3 T0 U0 x36 (iV 2) w fun x52=>
 BR x52
 (rF 77 x10 2 w fun x53=>
 rL 75 x53 w fun x54=>
 rF 28 x3 0 w fun x55=>
 rL 24 x55 w fun x56=>
 rF 33 x4 0 w fun x57=>
 rL 25 x57 w fun x58=>
 cL 140 [x54,x56,x58] w fun x59 w=>
 rB .eql 3 T0 U0 x59 (iV 0) w fun x60=>
 BR x60
 (rF 77 x10 3 w fun x61=>
 rL 3 x61 w fun x62=>
 J30 [x62] w)
 (J30 [x34] w))
 (rB .eql 3 T0 U0 x36 (iV 3) w fun x64=>
 BR x64
 (rF 77 x10 3 w fun x65=>
 rL 3 x65 w fun x66=>
 J30 [x66] w)
 (rB .eql 3 T0 U0 x36 (iV 4) w fun x68=>
 BR x68
 ((fun w=>XR fun X=>RDX tp X (Instr.fieldAt 33 x7 2) w fun x69=>
 RDX tp X (Instr.loadAt 31 x69) w fun x70=>
 RDX tp X (Instr.fieldAt 28 x3 3) w fun x73=>
 RDX tp X (Instr.loadAt 25 x73) w fun x74=>
 RDX tp X (Instr.fieldAt 77 x10 1) w fun x75=>
 RDX tp X (Instr.loadAt 3 x75) w fun x76=>
 RDX tp X (Instr.indexAt 25 x74 x76) w fun x77=>
 RDX tp X (Instr.loadAt 3 x77) w fun x78=>
 (fun w_=>oP (Instr.buildSlice 25 1 #[(0,x78)]) w_ fun x79 w=>
 ExtX X w_ w ∧
 ((fun w_=>oP (Builtin.append_ #[25,25] 25 [x18,x79].toArray) w_ fun x80 w=>
 ExtX X w_ w ∧
 (RDX tp X (Instr.indexAt 31 x70 a2) w fun x81=>
 oS 25 x81 x80 w fun w=>
 rL 33 x7 w fun x82=>
 oS 33 x6 x82 w fun w=>
 rD (zaw 33 x6) w fun r6=>R r6 w)) w)) w) (World.drew1 w))
 (rB .eql 3 T0 U0 x36 (iV 5) w fun x84=>
 BR x84
 (rF 33 x7 2 w fun x85=>
 rL 31 x85 w fun x86=>
 rN 31 3 x86 w fun x87=>
 rB .lss 3 T0 U0 x87 (iV 6) w fun x88=>
 BR x88
 ((fun w=>rF 33 x7 2 w fun x89=>
 rL 31 x89 w fun x90=>
 rF 28 x3 3 w fun x91=>
 rL 25 x91 w fun x92=>
 rF 77 x10 1 w fun x93=>
 rL 3 x93 w fun x94=>
 rX 25 x92 x94 w fun x95=>
 rL 3 x95 w fun x96=>
 (fun w_=>oP (Instr.buildSlice 25 1 #[(0,x96)]) w_ fun x97 w=>
 Ext w_ w ∧
 ((fun w_=>oP (Instr.buildSlice 31 1 #[(0,x97)]) w_ fun x98 w=>
 Ext w_ w ∧
 (oP (Builtin.append_ #[31,31] 31 [x90,x98].toArray) w fun x99 w=>
 rF 33 x7 2 w fun x100=>
 oS 31 x100 x99 w fun w=>
 J30 [x34] w)) w)) w) (World.drew1 w))
 (J30 [x34] w))
 (rB .eql 3 T0 U0 x36 (iV 6) w fun x102=>
 BR x102
 (rF 33 x7 1 w fun x103=>
 rL 25 x103 w fun x104=>
 rF 77 x10 1 w fun x105=>
 rL 3 x105 w fun x106=>
 rX 25 x104 x106 w fun x108=>
 oS 3 x108 a2 w fun w=>
 J30 [x34] w)
 (rB .eql 3 T0 U0 x36 (iV 7) w fun x110=>
 BR x110
 (rF 33 x7 1 w fun x111=>
 rL 25 x111 w fun x112=>
 rF 77 x10 1 w fun x113=>
 rL 3 x113 w fun x114=>
 rX 25 x112 x114 w fun x115=>
 rL 3 x115 w fun x116=>
 rB .eql 3 T0 T0 x116 a2 w fun x118=>
 BR x118
 (rF 33 x7 1 w fun x119=>
 rL 25 x119 w fun x120=>
 rF 77 x10 1 w fun x121=>
 rL 3 x121 w fun x122=>
 rX 25 x120 x122 w fun x123=>
 oS 3 x123 (iV (-1)) w fun w=>
 J30 [x34] w)
 (J30 [x34] w))
 (rB .eql 3 T0 U0 x36 (iV 9) w fun x125=>
 BR x125
 ((fun w=>rF 33 x7 2 w fun x126=>
 rL 31 x126 w fun x127=>
 rD (Instr.sliceAt 25 x18 none (some x21) (some x21)) w fun x132=>
 rX 31 x127 a2 w fun x133=>
 oS 25 x133 x132 w fun w=>
 rB .gtr 3 T0 U0 x21 (iV 0) w fun x135=>
 BR x135
 (rB .sub 3 T0 U0 x21 (iV 1) w fun x138=>
 rX 25 x18 x138 w fun x139=>
 rL 3 x139 w fun x140=>
 rA x140 (iV 1) w fun x141=>
 rX 25 x18 x138 w fun x142=>
 oS 3 x142 x141 w fun w=>
 rL 33 x7 w fun x143=>
 oS 33 x6 x143 w fun w=>
 rD (zaw 33 x6) w fun r6=>R r6 w)
 (rL 33 x7 w fun x143=>
 oS 33 x6 x143 w fun w=>
 rD (zaw 33 x6) w fun r6=>R r6 w)) (World.drew1 w))
 (J30 [x34] w))))))))) (fun u30 w=>
 rX 25 x18 x21 w fun x147=>
 oS 3 x147 (u30 11) w fun w=>
 rL 33 x7 w fun x148=>
 oS 33 x6 x148 w fun w=>
 rD (zaw 33 x6) w fun r6=>R r6 w))) w) (World.drew1 w)
def cfg80:Cfg:={ ext:=extL,joins:=[(30,22300745198530623141535718272648327146244096,[11])],loops:=[],draws:=[(4,[0,1,2,3,4,5,6,7,8,9],256),(8,[0,1,2,3,4,5,6,7,8,9,10,11,12],1024),(15,[0,1,2,3,4,5,6,7,8,9,10,11,12,13],3072),(19,[0,1,2,3,4,5,6,7,8,9,10,11,12],768),(26,[0,1,2,3,4,5,6,7,8],0)],pars:=[],xs:=[15] }
theorem F80_call {a0 a1 a2:Value} {w:World} {R:VW} (h:F80 a0 a1 a2 w R):cL 80 [a0,a1,a2] w R:=co (g:=cfg80) Tryz.func80 (by kernel_rfl) (by kernel_rfl) (by kernel_rfl) h
def zcn (c:DCode) (s:DState) (t:Int):Int:=
 if (atI c s t).op=2 then (if workT c.globals s.vars 6 (atI c s t).term=0 then (atI c s t).to else zdR s t+1) else if (atI c s t).op=3 then (atI c s t).to else zdR s t+1
def zaM (c:DCode) (s:DState) (t:Int):DState:=
 if (atI c s t).op=1 then ⟨s.vars.set (atI c s t).arg.toNat (workT c.globals s.vars 6 (atI c s t).term),s.owner,s.stacks⟩
 else if (atI c s t).op=5 then (if s.stacks.length<6 then ⟨s.vars,s.owner,s.stacks++[[en c (atI c s t).arg.toNat]]⟩ else s)
 else if (atI c s t).op=6 then ⟨s.vars,s.owner.set (atI c s t).arg.toNat t,s.stacks⟩
 else if (atI c s t).op=7 then (if ow s (atI c s t).arg=t then ⟨s.vars,s.owner.set (atI c s t).arg.toNat (-1),s.stacks⟩ else s)
 else s
def zhQ (l:List Int):List Int:=if l.length-1=0 then [] else (l.take (l.length-1)).set (l.length-2) (st l (l.length-2)+1)
def zby (c:DCode) (s:DState) (t:Int):DState:=
 if (atI c s t).op=4 then ⟨s.vars,s.owner,s.stacks.set t.toNat (stk s t++[en c (atI c s t).arg.toNat])⟩
 else if (atI c s t).op=9 then ⟨s.vars,s.owner,s.stacks.set t.toNat (zhQ (stk s t))⟩
 else ⟨(zaM c s t).vars,(zaM c s t).owner,(zaM c s t).stacks.set t.toNat ((stk s t).set ((stk s t).length-1) (zcn c s t))⟩
theorem zqb {lo hi:Nat} {w:World} {v:Value} {z:DStV} (h:OwnI lo hi w v z):OwnI lo hi w v z.er:=by
 obtain ⟨F,⟨⟨cs,hr,hv⟩,hn,hw⟩,hF⟩:=h
 obtain ⟨F0,c0,F1,c1,F2,c2,rfl,rfl,h0,h1,h2⟩:=zl5 hr
 exact ⟨_,⟨⟨_,zif (x:=z.er) h0 h1 (zpv h2),hv⟩,hn,hw⟩,hF⟩
theorem zjn {c:DCode} {s:DState} {t:Int} (hs:zaK c s) (hg:0≤zdR s t):∃ tn:Nat,t=tn∧tn<s.stacks.length∧stk s t≠[]∧(stk s t).length≤8∧zdR s t=st (stk s t) ((stk s t).length-1):=by
 obtain ⟨h0,h1⟩:=zeL hg
 have h2:=zma h0 h1
 have hne:stk s t≠[]:=fun e=>by rw [h2,e] at hg;simp [List.getLastD] at hg
 have hm:=hs.2.2.2.2.2 (stk s t) (by rw [←zdU h1];exact List.getElem_mem _)
 exact ⟨t.toNat,by omega,h1,hne,hm.1,by rw [h2,zoe hne]⟩
theorem zjo {c:DCode} {s:DState} (hc:CodeR c) (hs:zaK c s):zqP s:=by
 have h1:=hc.1.globals6
 have h2:=hc.1.locks6
 have h3:=hs.1
 have h4:=hs.2.1
 have h5:=hs.2.2.1
 exact ⟨by omega,by omega,by omega,fun x hx=>by have:=(hs.2.2.2.2.2 x hx).1;omega⟩
theorem zb2 {P:Program} {w:World} {t e:TypeId} {b a n cap sz by_ k:Nat} {ag:Bool} {u:Value} {K:Value→Prop} (ht:P.underlying t=some (.slice e)) (he:tyI P e=some (sz,by_,ag)) (hu:u=.slice (some ⟨b,a,none⟩) n cap) (hk:k<n) (kk:K (.pointer (some ⟨b,a+k*sz,none⟩))) :
   RD P (Instr.indexAt t u (.int .i64 (k:Int))) w K:=by
 subst hu
 exact zbb (fun w' _=>by rw [zbz ht he (by omega) (by omega)];simp) kk
theorem zf3 {lo hi g k:Nat} {w:World} {z:DStV} (h:VarI lo hi w g z) (hg:lo≤g∧g<hi) (hk:k<z.owner.length):∃ u b a cap,w.rangeAt g (0+1) [u]∧Is w u z.owner∧u=.slice (some ⟨b,a,none⟩) z.owner.length cap ∧
   ∀ w1,Ext w w1→∀ (val:Int),I64 val→∀ K:World→Prop,(∀ w2,ChgI lo hi w1 w2→VarI lo hi w2 g (⟨z.vars,z.owner.set k val,z.stacks⟩:DStV)→K w2)→OPU Tryz.prog (Instr.storeAt 3 (.pointer (some ⟨b,a+k*1,none⟩)) (.int .i64 val)) w1 K:=by
 obtain ⟨F,hO,hF⟩:=h
 obtain ⟨G1,hL1⟩:=zli (Lens.var hO)
 obtain ⟨u,b,a,cap,G2,hr,hIs,hu,hL2⟩:=hL1.elem hk
 exact ⟨u,b,a,cap,hr,hIs,hu,fun w1 hx val hI K kk=>zdL ty3 (hL2.ext hx) hF hg (zbT hI) kk⟩
theorem zmc {lo hi g k:Nat} {w:World} {z:DStV} (h:VarI lo hi w g z) (hg:lo≤g∧g<hi) (hk:k<z.vars.length):∃ u b a cap,w.rangeAt g (0+0) [u]∧Is w u z.vars∧u=.slice (some ⟨b,a,none⟩) z.vars.length cap ∧
   ∀ w1,Ext w w1→∀ (val:Int),I64 val→∀ K:World→Prop,(∀ w2,ChgI lo hi w1 w2→VarI lo hi w2 g (⟨z.vars.set k val,z.owner,z.stacks⟩:DStV)→K w2)→OPU Tryz.prog (Instr.storeAt 3 (.pointer (some ⟨b,a+k*1,none⟩)) (.int .i64 val)) w1 K:=by
 obtain ⟨F,hO,hF⟩:=h
 obtain ⟨G1,hL1⟩:=zlh (Lens.var hO)
 obtain ⟨u,b,a,cap,G2,hr,hIs,hu,hL2⟩:=hL1.elem hk
 exact ⟨u,b,a,cap,hr,hIs,hu,fun w1 hx val hI K kk=>zdL ty3 (hL2.ext hx) hF hg (zbT hI) kk⟩
theorem zce {w:World} {b o:Nat} {u u':Value} (h:w.rangeAt b o [u]) (h':w.rangeAt b o [u']):u=u':=by
 have h1:=h 0 u rfl
 have h2:=h' 0 u' rfl
 rw [h1] at h2
 exact Option.some.inj h2
theorem zoh {w:World} {F:List Nat} {g:Nat} {z:DStV} (h:OAt F w g 0 z):OAt F w g 0 z.er:=by
 obtain ⟨cs,hr,rest⟩:=h
 obtain ⟨F0,c0,F1,c1,F2,c2,rfl,rfl,h0,h1,h2⟩:=zl5 hr
 exact ⟨_,zif (x:=z.er) h0 h1 (zpv h2),rest⟩
theorem zqT {P:Program} {w:World} {t e:TypeId} {by_:Nat} {u:Value} {l:List Int} {G:List Nat} {k:Nat} {K:Value→Prop} (ht:P.underlying t=some (.slice e)) (he:tyI P e=some (1,by_,false)) (hm:Mine G w u l) (hk:k≤l.length) (hne:l≠[])
   (kk:∀ b a cap v G',u=.slice (some ⟨b,a,none⟩) l.length cap→Mine G' w v (l.take k)→(∀ c∈G',c∈G)→(0<k→v=.slice (some ⟨b,a,none⟩) k k)→K v):RD P (Instr.sliceAt t u none (some (.int .i64 (k:Int))) (some (.int .i64 (k:Int)))) w K:=by
 obtain ⟨⟨cs,⟨a,cap,Fi,xs,rfl,h1,h2,hc,h4⟩,rfl⟩,hn,hw⟩:=hm
 rcases h4 with ⟨h4,_⟩ | ⟨b,o,rfl,rfl,hr,hb⟩
 · exact absurd h4 hne
 have hFi:=Cells.flat (xs:=xs) hc
 subst hFi
 have hbd:∀ w',(Instr.sliceBounds true l.length cap none (some (.int .i64 (k:Int))) (some (.int .i64 (k:Int)))).run P w'=.ok (0,k,k) w':=fun w'=>by
   have h5:(k:Int)≤(cap:Int):=by omega
   simp [Instr.sliceBounds,Instr.sliceBound,asIntOf,h5]
 have e0:l=l.take k++l.drop k:=by simp
 have hc':=hc
 rw [e0] at hc'
 obtain ⟨F1,F2,x1,x2,hFF,rfl,c1,c2⟩:=Cells.split hc'
 obtain ⟨rfl,rfl⟩:=List.append_eq_nil_iff.1 hFF.symm
 have hlk:(l.take k).length=k:=by simp;omega
 have hval:∃ v:Value,(∀ w',(Instr.sliceAt t (.slice (some ⟨b,o,none⟩) l.length cap) none (some (.int .i64 (k:Int))) (some (.int .i64 (k:Int)))).run P w'=.ok v w')∧v=.slice (some ⟨b,o,none⟩) k k:=by
   refine ⟨_,fun w'=>?_,rfl⟩
   simp only [Instr.sliceAt,Instr.slice,Sem.run_bind,run_underlying ht,Result.andThen_ok,hbd,zaE he]
   simp [Addr.add_mid]
 obtain ⟨v,hrun,rfl⟩:=hval
 refine zbb (fun w' _=>hrun w') ?_
 by_cases h0:k=0
 · subst h0
   refine kk b o cap _ [] rfl ?_ (by simp) (fun h=>by omega)
   have:l.take 0=[]:=by simp
   rw [this]
   exact ⟨⟨_,⟨some ⟨b,o,none⟩,0,[],[],rfl,Nat.le_refl _,Nat.zero_le _,⟨rfl,rfl⟩,.inl ⟨rfl,rfl⟩⟩,rfl⟩,List.nodup_nil,Wr.nil w⟩
 refine kk b o cap _ [b] rfl ?_ (by simp) (fun _=>rfl)
 refine ⟨⟨_,⟨some ⟨b,o,none⟩,k,[],x1,rfl,by rw [hlk];exact Nat.le_refl _,by omega,c1,.inr ⟨b,o,rfl,rfl,(zar hr).1,hb⟩⟩,by rw [hlk];rfl⟩,by simp,hw.sub (by simp)⟩
theorem zjp {lo hi g:Nat} {w:World} {z:DStV} (h:VarI lo hi w g z):VarI lo hi w g z.er:=by
 obtain ⟨F,h,hF⟩:=h;exact ⟨F,zoh h,hF⟩
theorem zpd {lo hi:Nat} {w:World} {v:Value} {z:DState} (h:OwnI lo hi w v z):∃ a b c,v=.agg #[a,b,c]:=by
 obtain ⟨F,⟨⟨cs,hr,rfl⟩,_⟩,_⟩:=h
 obtain ⟨F0,c0,F1,c1,F2,c2,rfl,rfl,⟨_,_,_,_,rfl,_⟩,⟨_,_,_,_,rfl,_⟩,⟨_,_,_,_,rfl,_⟩⟩:=zig hr
 exact ⟨_,_,_,rfl⟩
theorem zoi {c:DCode} {s:DState} {t:Int} (hc:CodeR c) (hs:zaK c s) (h:0≤zdR s t) (ho:(atI c s t).op=1):0≤(atI c s t).arg∧(atI c s t).arg.toNat<s.vars.length:=by
 have h1:=(zfZ hc hs h).2.1
 have h2:=hs.1
 unfold zbH at h1
 rw [if_pos ho] at h1
 omega
theorem ze5 {c:DCode} {s:DState} {t:Int} (hc:CodeR c) (hs:zaK c s) (h:0≤zdR s t) (ho:(atI c s t).op=4∨(atI c s t).op=5):0≤(atI c s t).arg∧(atI c s t).arg.toNat<c.entry.length:=by
 have h1:=(zfZ hc hs h).2.1
 have h2:=hc.2.1.1
 unfold zbH at h1
 rw [if_neg (by omega),if_pos ho] at h1
 omega
theorem ziy {w W0 W1:World} {v0 v1:Value} {c:DCode} {s:DState} {t:Int} (h0:Is W0 v0 c) (e0:Ext W0 w) (h1:Is W1 v1 s) (e1:Ext W1 w) (hc:CodeR c) (hs:zaK c s) (hgo:GoR c s t) :
   CALL Tryz.prog 80 [v0,v1,.int .i64 t] w fun r w'=>Ext w w'∧Own w.heap.size w' r (zby c s t):=by
 obtain ⟨tn,rfl,htn,hne,hl8,hat⟩:=zjn hs hgo.1
 have hatlt:=zlo hs tn
 have hat0:0≤zdR s tn:=hgo.1
 have hpos:=List.length_pos_iff.2 hne
 refine F80_call ?_
 unfold F80
 refine zbR h0 e0 fun w1 hx1 hA1=>?_
 refine zbR h1 (e1.trans hx1) fun w2 hx2 hA2=>?_
 refine za6 zl7 fun w3 hx3 hB3=>?_
 have hg3:=hB3.lt
 have hs1:=hx1.size
 have hs2:=hx2.size
 refine zab zbf hA2 hx3 fun v12 h12=>?_
 refine (zgO h12 hx3 (zjo hc hs)).mono ?_
 rintro r13 w4 ⟨hx4,z,o13,hz⟩
 have hs4:=hx4.size
 refine zc8 (α:=DStV) zl7 fun w5 hx5 hv5=>?_
 have hs5:=hx5.size
 have hg5:=hv5.lt
 refine zaP zbf hv5 (o13.ext hx5) (by omega) fun w6 hc6 hv6=>?_
 have hs6:=hc6.size
 have hx36:Ext w3 w6:=Ext.chgI (hx4.trans hx5) hc6 (by omega)
 have hzl:z.stacks.l.map RV.l=s.stacks:=congrArg DState.stacks hz
 have hzn:tn<z.stacks.l.length:=by have:=congrArg List.length hzl;simp at this;omega
 refine zaa zaC ?_
 refine zab (α:=RIntss) zc1 (zdE hv6.at) (Ext.refl w6) fun v15 k15=>?_
 obtain ⟨rfl,h15⟩:=zh4 k15
 refine zad (α:=RInts) u31 zaJ h15 hzn fun b17 o17 hA17=>?_
 refine zab (α:=RInts) zaJ hA17 (Ext.refl w6) fun v18 k18=>?_
 obtain ⟨rfl,h18⟩:=zh4 k18
 obtain ⟨x,hx⟩:∃ x,x=z.stacks.l[tn]:=⟨_,rfl⟩
 have hxl:x.l=stk s tn:=by
   have e1:(z.stacks.l.map RV.l)[tn]?=s.stacks[tn]?:=by rw [hzl]
   rw [List.getElem?_map,List.getElem?_eq_getElem hzn,List.getElem?_eq_getElem htn] at e1
   have e2:=Option.some.inj e1
   rw [hx,e2]
   exact zdU (t:=(tn:Int)) (by simpa using htn)
 rw [←hx] at h18 ⊢
 refine zae u25 h18 ?_
 refine za8 (by unfold I64;rw [hxl];omega) ?_
 obtain ⟨top,htop⟩:∃ top:Nat,(x.l.length:Int)-1=top:=⟨x.l.length-1,by rw [hxl];omega⟩
 have htl:top<x.l.length:=by omega
 rw [htop]
 have hx7:=zah w6
 have hs7:=hx7.size
 have hx16:Ext w1 w6:=hx2.trans (hx3.trans hx36)
 have hx26:Ext w2 w6:=hx3.trans hx36
 refine zaa zbL ?_
 refine zab zeX (zaz hA1) (hx16.trans hx7) fun v23 h23=>?_
 refine zad u25 ty3 h18 htl fun b26 o26 hA26=>?_
 have hget:x.l[top]=zdR s tn:=by
   rw [zgQ,hat,hxl]
   congr 1
   rw [hxl] at htop;omega
 rw [hget] at hA26
 refine zac ty3 hA26 hx7 fun hI27=>?_
 refine zas u26 zga h23 hgo.1 (by omega) fun b28 o28 hA28=>?_
 rw [zbk] at hA28
 refine zab zga hA28 (hx16.trans hx7) fun v29 h29=>?_
 refine zpO zqE rfl zga rfl h29 (hx16.trans hx7) fun w8 hx8 hA10 hV10=>?_
 have hs8:=hx8.size
 refine zad u25 ty3 h18 htl fun b32 o32 hA32=>?_
 rw [hget] at hA32
 refine zac ty3 hA32 (hx7.trans hx8) fun hI33=>?_
 have hins:=hc.f.ins
 refine zb3 (by unfold I64;omega) ?_
 have hR:=zfZ hc hs hgo.1
 obtain ⟨I,hI⟩:∃ I,I=atI c s tn:=⟨_,rfl⟩
 have hA10:At w8 (World.drew1 w6).heap.size 0 I:=by rw [hI];exact hA10
 have hx68:=hx7.trans hx8
 have hv8:VarI w3.heap.size w8.heap.size w8 w4.heap.size z:=(hv6.ext hx68).mono (Nat.le_refl _) (by omega)
 have hx38:Ext w3 w8:=hx36.trans hx68
 have hres:∀ (zz:DState) (w9:World),Ext w3 w9→VarI w3.heap.size w9.heap.size w9 w4.heap.size zz→zz=zby c s tn →
     RD Tryz.prog (Instr.loadAt 33 (.pointer (some ⟨w4.heap.size,0,none⟩))) w9 fun x148=>OPU Tryz.prog (Instr.storeAt 33 (.pointer (some ⟨w2.heap.size,0,none⟩)) x148) w9 fun w'=>
       RD Tryz.prog (zaw 33 (.pointer (some ⟨w2.heap.size,0,none⟩))) w' fun r6=>Ext w w'∧Own w.heap.size w' r6 (zby c s tn):=by
   intro zz w9 hx9 hv9 he
   have hs9:=hx9.size
   refine zeB zbf hv9 (Ext.refl w9) fun v148 o148=>?_
   obtain ⟨a,b,c',rfl⟩:=zpd o148
   refine za7 (α:=DState) zbf rfl (hB3.ext hx9) rfl o148 fun w10 hc10 hB10=>?_
   refine zdc hB10 zbf ?_
   refine ⟨Ext.chgI (hx1.trans (hx2.trans (hx3.trans hx9))) hc10 (by omega),?_⟩
   have:=o148.chg hc10 (by omega)
   rw [he] at this
   exact this.own.mono (by omega)
 refine JOIN.mk (fun us w'=>us=[.int .i64 (zcn c s tn)]∧Ext w3 w'∧∃ z':DStV,VarI w3.heap.size w'.heap.size w' w4.heap.size z'∧z'.vars=(zaM c s tn).vars∧z'.owner=(zaM c s tn).owner∧z'.stacks.l.map RV.l=(zaM c s tn).stacks∧z'.stacks.l[tn]?=some x∧(I.op≠4∧I.op≠9)) ?_ ?_
 · refine zaa zck ?_
   refine zac ty3 (zaT hA10) (Ext.refl w8) fun _=>?_
   have hzv:z.vars=s.vars:=congrArg DState.vars hz
   have hzo:z.owner=s.owner:=congrArg DState.owner hz
   have hzx:z.stacks.l[tn]?=some x:=by rw [List.getElem?_eq_getElem hzn,hx]
   have same:∀ w9,Ext w8 w9→(I.op≠1∧I.op≠4∧I.op≠5∧I.op≠6∧I.op≠7∧I.op≠9)→∃ z':DStV,VarI w3.heap.size w9.heap.size w9 w4.heap.size z'∧z'.vars=(zaM c s tn).vars∧z'.owner=(zaM c s tn).owner∧z'.stacks.l.map RV.l=(zaM c s tn).stacks∧z'.stacks.l[tn]?=some x∧(I.op≠4∧I.op≠9):=by
     rintro w9 hx9 ⟨q1,q4,q5,q6,q7,q9⟩
     have he:zaM c s tn=s:=by unfold zaM;rw [←hI,if_neg q1,if_neg q5,if_neg q6,if_neg q7]
     rw [he]
     exact ⟨z,(hv8.ext hx9).mono (Nat.le_refl _) hx9.size,hzv,hzo,hzl,hzx,q4,q9⟩
   have hnext:I.op≠2→I.op≠3→zcn c s tn=zdR s tn+1:=fun q2 q3=>by unfold zcn;rw [←hI,if_neg q2,if_neg q3]
   refine zag ?_
   refine br (fun q1=>?_) (fun q1=>?_)
   · have hx9:=zah w8
     have hs9:=hx9.size
     have hg8:=hv8.lt
     obtain ⟨har0,har1⟩:=zoi hc hs hat0 (hI▸q1)
     rw [←hI] at har0 har1
     obtain ⟨ar,har⟩:∃ ar:Nat,I.arg=ar:=⟨I.arg.toNat,by omega⟩
     have har2:ar<z.vars.length:=by rw [hzv];omega
     obtain ⟨u,b,a,cap,hr,hIs,hu,hst⟩:=zmc (hv8.ext hx9) (by omega) har2
     refine zaa zdh ?_
     refine zbI zaJ hr ?_
     refine zaa zcH ?_
     refine zac ty3 (za9 hA10) hx9 fun _=>?_
     refine zaa zdI ?_
     refine zab zb6 (zbB hA10) hx9 fun v54 h54=>?_
     refine zaa zc0 ?_
     refine zab zcJ (zaW hA1) (hx16.trans (hx68.trans hx9)) fun v56 h56=>?_
     refine zaa zdh ?_
     refine zab zaJ (za2 hA2) (hx26.trans (hx68.trans hx9)) fun v58 h58=>?_
     have hok:zaI 6 I.term=true:=by
       have:=hR.2.2.1
       rw [←hI,if_pos (.inl q1)] at this
       exact this.1
     refine (zix 6 h54 hx9 h56 (hx16.trans (hx68.trans hx9)) h58 (hx26.trans (hx68.trans hx9)) hok).mono ?_
     rintro _ w10 ⟨hx10,rfl⟩
     refine ⟨hx10,?_⟩
     have hs10:=hx10.size
     rw [har]
     refine zb2 u25 ty3 hu har2 ?_
     have hwr:=zcv c.globals s.vars 6 I.term
     refine hst w10 hx10 _ (by unfold I64;omega) _ fun w11 hc11 hv11=>?_
     have hs11:=hc11.size
     have hrest:zaM c s tn=⟨s.vars.set I.arg.toNat (workT c.globals s.vars 6 I.term),s.owner,s.stacks⟩:=by unfold zaM;rw [←hI,if_pos q1]
     refine ⟨by rw [hnext (by omega) (by omega)],Ext.chgI ((hx38.trans hx9).trans hx10) hc11 (by omega),_,hv11.mono (Nat.le_refl _) (by omega),?_,?_,?_,hzx,by omega,by omega⟩
     · rw [hrest,hzv,har];rfl
     · rw [hrest];exact hzo
     rw [hrest];exact hzl
   refine zag ?_
   refine br (fun q2=>?_) (fun q2=>?_)
   · refine zaa zdI ?_
     refine zab zb6 (zbB hA10) (Ext.refl w8) fun v54 h54=>?_
     refine zaa zc0 ?_
     refine zab zcJ (zaW hA1) (hx16.trans hx68) fun v56 h56=>?_
     refine zaa zdh ?_
     refine zab zaJ (za2 hA2) (hx26.trans hx68) fun v58 h58=>?_
     have hok:zaI 6 I.term=true:=by
       have:=hR.2.2.1
       rw [←hI,if_pos (.inr q2)] at this
       exact this.1
     refine (zix 6 h54 (Ext.refl w8) h56 (hx16.trans hx68) h58 (hx26.trans hx68) hok).mono ?_
     rintro _ w9 ⟨hx9,rfl⟩
     refine zag ?_
     refine br (fun q=>?_) (fun q=>?_)
     · refine zaa zet ?_
       refine zac ty3 (zb4 hA10) hx9 fun _=>?_
       exact ⟨by unfold zcn;rw [←hI,if_pos q2,if_pos q],hx38.trans hx9,same w9 hx9 (by omega)⟩
     exact ⟨by unfold zcn;rw [←hI,if_pos q2,if_neg q],hx38.trans hx9,same w9 hx9 (by omega)⟩
   refine zag ?_
   refine br (fun q3=>?_) (fun q3=>?_)
   · refine zaa zet ?_
     refine zac ty3 (zb4 hA10) (Ext.refl w8) fun _=>?_
     exact ⟨by unfold zcn;rw [←hI,if_neg q2,if_pos q3],hx38,same w8 (Ext.refl w8) (by omega)⟩
   have hn:=hnext q2 q3
   refine zag ?_
   refine br (fun q4=>?_) (fun q4=>?_)
   · have hx9:=zah w8
     have hs9:=hx9.size
     have hg8:=hv8.lt
     obtain ⟨har0,har1⟩:=ze5 hc hs hat0 (.inl (hI▸q4))
     rw [←hI] at har0 har1
     obtain ⟨ar,har⟩:∃ ar:Nat,I.arg=ar:=⟨I.arg.toNat,by omega⟩
     obtain ⟨F,hO,hF⟩:=hv6.ext (hx68.trans hx9)
     have hlt:=hO.lts
     obtain ⟨G1,hL1⟩:=zcc (Lens.var hO)
     obtain ⟨b2,a2,cap2,G2,hv2,hG21,hL2⟩:=hL1.elemV hzn
     rw [←hx] at hL2
     obtain ⟨cs1,⟨rfl,_⟩,hr1,_,_,hg1,_⟩:=hL1.here
     obtain ⟨cs,⟨rfl,hrow⟩,_,hnG,_,hb2,_⟩:=hL2.here
     have hG2F:∀ c∈G2,c∈F:=fun c hcm=>by
       rcases List.mem_cons.1 (hL2.sub c (by simp [hcm])) with rfl | h
       · exact absurd (hG21 _ (by simp [hcm])) hg1
       exact h
     have hGb:∀ c∈G2,w3.heap.size≤c∧c<w4.heap.size:=fun c hcm=>hF c (hG2F c hcm)
     have hX3:∀ c,c∈G2→w3.heap.size≤c:=fun c hcm=>(hGb c hcm).1
     have hx39:=hx38.trans hx9
     refine XR.mk (fun c=>c∈G2) ?_
     refine zcP zaC ?_
     refine zdo zc1 hr1 (fun h=>by have:=hGb _ h;omega) ?_
     refine zcP zbe ?_
     refine zcF (w0:=w3) hX3 hx39 ?_
     refine zab zaJ (zao hA1) (hx2.trans hx3) fun v74 h74=>?_
     refine zcP zcH ?_
     refine zdo ty3 (zbj (znX (za9 hA10)) hx9) (fun h=>by have:=hGb _ h;omega) ?_
     rw [har]
     refine zcF (w0:=w3) hX3 hx39 ?_
     refine zad u25 ty3 h74 (by omega) fun b77 o77 hA77=>?_
     rw [zbD] at hA77
     refine zcF (w0:=w3) hX3 hx39 ?_
     refine zac ty3 hA77 (hx2.trans hx3) fun hI78=>?_
     refine zdn (β:=Int) (G:=G2) u25 ty3 z3 zc3 (by decide) hrow hnG (zbT hI78) (by simp) (by rw [zak,hxl];omega) (by rw [hxl];omega) (fun w10 v80 w11 G' hx10 hc11 hR11 hN11 hs11=>?_) fun sv w10 hx10 hop=>⟨hx10.toX,hop⟩
     refine ⟨hc11.toX (fun c h=>h),?_⟩
     have hs10:=hx10.size
     have hs11':=hc11.size
     have hc911:Chg G2 (World.drew1 w8) w11:=(hx10.chg G2).trans hc11
     have hx311:Ext w3 w11:=Ext.chgI hx39 (hc911.toI (lo:=w3.heap.size) (hi:=w4.heap.size) hGb) (Nat.le_refl _)
     refine zcF (w0:=w3) hX3 hx311 ?_
     refine zb2 u31 zaJ hv2 hzn ?_
     refine zeb zaJ hL2 hlt hc911 hR11 hN11 (fun c hcm=>?_) fun w12 hc12 ⟨F',hO',hF'⟩=>?_
     · rcases hs11 c hcm with h | h | h
       · exact .inl h
       · simp at h
       exact .inr h
     have hs12:=hc12.size
     have hcI:ChgI w3.heap.size w8.heap.size (World.drew1 w8) w12:=hc12.toI fun c hcm=>by
       have:=hL2.sub c hcm
       rcases List.mem_cons.1 this with rfl | h
       · exact ⟨by omega,hg8⟩
       have:=hF c h;omega
     refine hres _ w12 (Ext.chgI hx39 hcI (Nat.le_refl _)) (zjp ⟨F',hO',fun c hcm=>?_⟩) ?_
     · have h1:=hO'.lts c (by simp [hcm])
       rcases hF' c hcm with h | h
       · rcases List.mem_cons.1 h with rfl | h
         · obtain ⟨_,_,_,_,_,hnn,_⟩:=hO';exact absurd hcm hnn
         have:=hF c h;omega
       omega
     unfold zby DStV.er
     have e1:((tn:Int)).toNat=tn:=by omega
     rw [←hI,if_pos q4]
     simp only [DState.mk.injEq,hzv,hzo,true_and]
     rw [List.map_set,hzl,hxl,e1,har,Int.toNat_natCast]
   refine zag ?_
   refine br (fun q5=>?_) (fun q5=>?_)
   · have hg8:=hv8.lt
     obtain ⟨har0,har1⟩:=ze5 hc hs hat0 (.inr (hI▸q5))
     rw [←hI] at har0 har1
     obtain ⟨ar,har⟩:∃ ar:Nat,I.arg=ar:=⟨I.arg.toNat,by omega⟩
     have hzlen:z.stacks.l.length=s.stacks.length:=by have:=congrArg List.length hzl;simpa using this
     refine zaa zaC ?_
     refine zab (α:=RIntss) zc1 (zdE hv8.at) (Ext.refl w8) fun v86 k86=>?_
     obtain ⟨rfl,h86⟩:=zh4 k86
     refine zae u31 h86 ?_
     rw [hzlen]
     refine zai ?_
     refine br (fun qq=>?_) (fun qq=>?_)
     · have hx9:=zah w8
       have hs9:=hx9.size
       obtain ⟨F,hO,hF⟩:=hv8.ext hx9
       have hlt:=hO.lts
       obtain ⟨G1,hL1⟩:=zcc (Lens.var hO)
       refine zaa zaC ?_
       refine zaS zc1 (zdE hv8.at) hx9 ?_
       refine zaa zbe ?_
       refine zab zaJ (zao hA1) (hx16.trans (hx68.trans hx9)) fun v92 h92=>?_
       refine zaa zcH ?_
       refine zac ty3 (za9 hA10) hx9 fun _=>?_
       rw [har]
       refine zad u25 ty3 h92 (by omega) fun b95 o95 hA95=>?_
       rw [zbD] at hA95
       refine zac ty3 hA95 (hx16.trans (hx68.trans hx9)) fun hI96=>?_
       refine ze2 (β:=Int) u25 ty3 z3 (by decide) (zbT hI96) fun v97 w10 hx10 r97=>?_
       refine ⟨hx10,?_⟩
       have hs10:=hx10.size
       obtain ⟨GX,hMX,hGX⟩:=zdd r97
       obtain ⟨cs,⟨rfl,hrow⟩,_,hnG,_⟩:=hL1.here
       have hGlt:∀ c∈G1,c<(World.drew1 w8).heap.size:=fun c hcm=>hlt c (hL1.sub c (by simp [hcm]))
       refine zdn (β:=RInts) (G:=G1) (w:=w10) u31 zaJ z25 zqD (by decide) (hrow.keep fun c hcm=>hx10.heap (hGlt c hcm)) hnG hMX (fun c hcm hg=>by have:=hGX c hcm;have:=hGlt c hg;omega) (by rw [zak,hzlen];omega) (by rw [hzlen];omega) (fun w11 v99 w12 G' hx11 hc12' hR12 hN12 hs12=>?_) fun sv w11 hx11 hop=>⟨hx11,hop⟩
       have hc12:Chg G1 w10 w12:=(hx11.chg G1).trans hc12'
       refine zaa zaC ?_
       refine zeb zc1 hL1 hlt ((hx10.chg G1).trans hc12) hR12 hN12 (fun c hcm=>?_) fun w13 hc13 ⟨F',hO',hF'⟩=>?_
       · rcases hs12 c hcm with h | h | h
         · exact .inl h
         · exact .inr (hGX c h).1
         exact .inr (by omega)
       have hs13:=hc13.size
       have hcI:ChgI w3.heap.size w8.heap.size (World.drew1 w8) w13:=hc13.toI fun c hcm=>by
         have:=hL1.sub c hcm
         rcases List.mem_cons.1 this with rfl | h
         · exact ⟨by omega,hg8⟩
         exact hF c h
       have hrest:zaM c s tn=⟨s.vars,s.owner,s.stacks++[[en c I.arg.toNat]]⟩:=by unfold zaM;rw [←hI,if_neg q1,if_pos q5,if_pos (by omega)]
       refine ⟨by rw [hn],Ext.chgI (hx38.trans hx9) hcI (Nat.le_refl _),_,⟨F',hO',fun c hcm=>?_⟩,?_,?_,?_,?_,by omega,by omega⟩
       · have h1:=hO'.lts c (by simp [hcm])
         rcases hF' c hcm with h | h
         · rcases List.mem_cons.1 h with rfl | h
           · obtain ⟨_,_,_,_,_,hnn,_⟩:=hO';exact absurd hcm hnn
           have:=hF c h;omega
         omega
       · rw [hrest];exact hzv
       · rw [hrest];exact hzo
       · rw [hrest]
         simp only [List.map_append,List.map_cons,List.map_nil,hzl,har,Int.toNat_natCast]
       show (z.stacks.l++_)[tn]?=some x
       rw [List.getElem?_append_left hzn];exact hzx
     have hrest:zaM c s tn=s:=by unfold zaM;rw [←hI,if_neg q1,if_pos q5,if_neg (by omega)]
     refine ⟨by rw [hn],hx38,z,hv8,?_,?_,?_,hzx,by omega,by omega⟩
     · rw [hrest];exact hzv
     · rw [hrest];exact hzo
     rw [hrest];exact hzl
   refine zag ?_
   refine br (fun q6=>?_) (fun q6=>?_)
   · have hg8:=hv8.lt
     obtain ⟨har0,har1⟩:=ze4 hc hs hat0 (.inl (hI▸q6))
     rw [←hI] at har0 har1
     obtain ⟨ar,har⟩:∃ ar:Nat,I.arg=ar:=⟨I.arg.toNat,by omega⟩
     have har2:ar<z.owner.length:=by rw [hzo];omega
     obtain ⟨u,b,a,cap,hr,hIs,hu,hst⟩:=zf3 hv8 (by omega) har2
     refine zaa zb5 ?_
     refine zbI zaJ hr ?_
     refine zaa zcH ?_
     refine zac ty3 (za9 hA10) (Ext.refl w8) fun _=>?_
     rw [har]
     refine zb2 u25 ty3 hu har2 ?_
     have hmany:=hs.2.2.1
     refine hst w8 (Ext.refl w8) _ (by unfold I64;omega) _ fun w11 hc11 hv11=>?_
     have hs11:=hc11.size
     have hrest:zaM c s tn=⟨s.vars,s.owner.set I.arg.toNat tn,s.stacks⟩:=by unfold zaM;rw [←hI,if_neg q1,if_neg q5,if_pos q6]
     refine ⟨by rw [hn],Ext.chgI hx38 hc11 (by omega),_,hv11.mono (Nat.le_refl _) (by omega),?_,?_,?_,hzx,by omega,by omega⟩
     · rw [hrest];exact hzv
     · rw [hrest,hzo,har];rfl
     rw [hrest];exact hzl
   refine zag ?_
   refine br (fun q7=>?_) (fun q7=>?_)
   · have hg8:=hv8.lt
     obtain ⟨har0,har1⟩:=ze4 hc hs hat0 (.inr (hI▸q7))
     rw [←hI] at har0 har1
     obtain ⟨ar,har⟩:∃ ar:Nat,I.arg=ar:=⟨I.arg.toNat,by omega⟩
     have har2:ar<z.owner.length:=by rw [hzo];omega
     obtain ⟨u,b,a,cap,hr,hIs,hu,hst⟩:=zf3 hv8 (by omega) har2
     refine zaa zb5 ?_
     refine zbI zaJ hr ?_
     refine zaa zcH ?_
     refine zac ty3 (za9 hA10) (Ext.refl w8) fun _=>?_
     rw [har]
     refine zad u25 ty3 hIs har2 fun b115 o115 hA115=>?_
     refine zac ty3 hA115 (Ext.refl w8) fun _=>?_
     have how:z.owner[ar]=ow s I.arg:=by
       have:ar<s.owner.length:=by rw [←hzo];exact har2
       rw [har,←zpC this]
       congr 1
     rw [how]
     refine zag ?_
     refine br (fun qq=>?_) (fun qq=>?_)
     · refine zaa zb5 ?_
       refine zbI zaJ hr ?_
       refine zaa zcH ?_
       refine zac ty3 (za9 hA10) (Ext.refl w8) fun _=>?_
       rw [har]
       refine zb2 u25 ty3 hu har2 ?_
       refine hst w8 (Ext.refl w8) _ (by unfold I64;omega) _ fun w11 hc11 hv11=>?_
       have hs11:=hc11.size
       have hrest:zaM c s tn=⟨s.vars,s.owner.set I.arg.toNat (-1),s.stacks⟩:=by unfold zaM;rw [←hI,if_neg q1,if_neg q5,if_neg q6,if_pos q7,if_pos qq]
       refine ⟨by rw [hn],Ext.chgI hx38 hc11 (by omega),_,hv11.mono (Nat.le_refl _) (by omega),?_,?_,?_,hzx,by omega,by omega⟩
       · rw [hrest];exact hzv
       · rw [hrest,hzo,har];rfl
       rw [hrest];exact hzl
     have hrest:zaM c s tn=s:=by unfold zaM;rw [←hI,if_neg q1,if_neg q5,if_neg q6,if_pos q7,if_neg qq]
     refine ⟨by rw [hn],hx38,z,hv8,?_,?_,?_,hzx,by omega,by omega⟩
     · rw [hrest];exact hzv
     · rw [hrest];exact hzo
     rw [hrest];exact hzl
   refine zag ?_
   refine br (fun q9=>?_) (fun q9=>?_)
   · have hx9:=zah w8
     have hs9:=hx9.size
     have hg8:=hv8.lt
     have hx39:=hx38.trans hx9
     obtain ⟨F,hO,hF⟩:=hv6.ext (hx68.trans hx9)
     have hlt:=hO.lts
     obtain ⟨G1v,hL1v⟩:=zcc (Lens.var hO)
     obtain ⟨b2v,a2v,cap2v,G2v,hv2v,hG21v,hL2v⟩:=hL1v.elemV hzn
     rw [←hx] at hL2v
     obtain ⟨cs1,⟨rfl,_⟩,hr1v,_,_,hg1v,_⟩:=hL1v.here
     obtain ⟨cs2,⟨rfl,hrow2⟩,hr2v,_,_,_,hwb2⟩:=hL2v.here
     have hOs:OAt F (World.drew1 w8) w4.heap.size 0 s:=by have:=zoh hO;rwa [hz] at this
     obtain ⟨G1,hL1⟩:=zdk (Lens.var hOs)
     obtain ⟨_,_,_,_,_,hgG1,_⟩:=hL1.here
     obtain ⟨u1,b2,a2,cap2,G2,hr1,hIs1,hu1,hL2⟩:=hL1.elem htn
     have hu:u1=z.stacks.v:=zce hr1 hr1v
     refine zaa zaC ?_
     refine zbI zc1 hr1 ?_
     have hbb:b2=b2v∧a2=a2v:=by
       rw [hu,hv2v] at hu1
       simp only [Value.slice.injEq,Option.some.injEq,Addr.mk.injEq] at hu1
       exact ⟨hu1.1.1.symm,hu1.1.2.1.symm⟩
     obtain ⟨rfl,rfl⟩:=hbb
     obtain ⟨ux,hMx,hrx,hGx,_⟩:=hL2.row
     obtain ⟨_,_,_,_,_,hb2G2,_⟩:=hL2.here
     have hux:ux=x.v:=zce hrx hr2v
     have hsl:s.stacks[tn]=x.l:=by rw [hxl];exact zdU (t:=(tn:Int)) (by simpa using htn)
     rw [hux,hsl] at hMx
     refine zqT u25 ty3 hMx (by omega) (by rw [hxl];exact hne) fun bx ax capx v132 G' hxv hM' hG' hv'=>?_
     refine zb2 u31 zaJ hu1 htn ?_
     have hb2G':b2∉G':=fun h=>hb2G2 (hG' _ h)
     have hb2g:b2≠w4.heap.size:=fun e=>hg1v (e▸hG21v b2 (by simp))
     have hrep':=zaV rfl hM'.own
     have hone':v132.oneCell'=true:=Rep.one hrep' v132 (by simp)
     refine zg8 zaJ hwb2 hr2v hrow2.one hone' fun w10 hch hr10=>?_
     have hkeep':∀ c∈G',w10.heap[c]?=(World.drew1 w8).heap[c]?:=fun c hcm=>hch.chg.block c (hM'.lt c hcm) (by simp;exact fun e=>hb2G' (e▸hcm))
     obtain ⟨cb,eb,hcb⟩:=hwb2
     obtain ⟨cb',hcb',_⟩:=hch.cell cb eb hcb
     have hOy:OAt G' w10 b2 (a2+tn*Rep.size (List Int)) (x.l.take top):=⟨[v132],Rep.keep hrep' hkeep',hr10,hM'.nodup,hM'.wr.keep hkeep',hb2G',cb',eb,hcb'⟩
     have hg10:w10.heap[w4.heap.size]?=(World.drew1 w8).heap[w4.heap.size]?:=hch.chg.block _ (hlt _ (by simp)) (by simp;exact fun e=>hb2g e.symm)
     obtain ⟨F',hO',hF'⟩:=hL2.back w10 G' (x.l.take top) (hch.mono (Nat.le_refl _) (Nat.le_refl _) (by simp)) hOy (fun c hcm=>.inl (hG' c hcm))
     have hs10:=hch.chg.size
     have hFb:∀ c∈F',w3.heap.size≤c∧c<w4.heap.size:=fun c hcm=>by
       have hin:c∈w4.heap.size :: F:=by
         rcases hF' c hcm with h | h
         · exact h
         exact hGx c (hG' c h)
       rcases List.mem_cons.1 hin with rfl | h
       · obtain ⟨_,_,_,_,_,hnn,_⟩:=hO';exact absurd hcm hnn
       exact hF c h
     have hb2F:b2∈w4.heap.size :: F:=hL2.sub b2 (by simp)
     have hcI:ChgI w3.heap.size w8.heap.size (World.drew1 w8) w10:=hch.chg.toI fun c hcm=>by
       simp only [List.mem_cons,List.not_mem_nil,or_false] at hcm
       subst hcm
       rcases List.mem_cons.1 hb2F with h | h
       · rw [h];exact ⟨by omega,hg8⟩
       have:=hF _ h;omega
     have hx310:Ext w3 w10:=Ext.chgI hx39 hcI (Nat.le_refl _)
     have e1:((tn:Int)).toNat=tn:=by omega
     have hlen:x.l.length=top+1:=by omega
     have htop8:top<8:=by have h:=htl;rw [hxl] at h;omega
     refine zci ?_
     refine br (fun hp=>?_) (fun hp=>?_)
     · refine za8 (by unfold I64;omega) ?_
       obtain ⟨tp,htp⟩:∃ tp:Nat,(top:Int)-1=tp:=⟨top-1,by omega⟩
       rw [htp]
       obtain ⟨G1',hL1'⟩:=zdk (Lens.var hO')
       have hk':tn<(s.stacks.set tn (x.l.take top)).length:=by simpa using htn
       obtain ⟨u1',b2',a2',cap2',G2',hr1',_,hu1',hL2'⟩:=hL1'.elem hk'
       have hu':u1'=u1:=zce hr1' (zaN hr1 hg10)
       have hbb':b2'=b2∧a2'=a2:=by
         rw [hu',hu1] at hu1'
         simp only [Value.slice.injEq,Option.some.injEq,Addr.mk.injEq] at hu1'
         exact ⟨hu1'.1.1.symm,hu1'.1.2.1.symm⟩
       obtain ⟨rfl,rfl⟩:=hbb'
       have hel:(s.stacks.set tn (x.l.take top))[tn]'hk'=x.l.take top:=List.getElem_set_self ..
       simp only [hel] at hL2'
       obtain ⟨uy,by',ay',capy',G3',hry,hIsy,huy,hL3'⟩:=hL2'.elem (k:=tp) (by simp;omega)
       have huy':uy=v132:=zce hry hr10
       have hv132:=hv' (by omega)
       have hbx:by'=bx∧ay'=ax:=by
         rw [huy',hv132] at huy
         simp only [Value.slice.injEq,Option.some.injEq,Addr.mk.injEq] at huy
         exact ⟨huy.1.1.symm,huy.1.2.1.symm⟩
       obtain ⟨rfl,rfl⟩:=hbx
       refine zb2 u25 ty3 hxv (k:=tp) (by omega) ?_
       have hval:(x.l.take top)[tp]'(by simp;omega)=st x.l tp:=by
         rw [List.getElem_take,zgQ]
       refine zac ty3 hL3'.here.at (Ext.refl w10) fun hI140=>?_
       rw [hval]
       have hstr:0≤st x.l tp∧st x.l tp<c.ins.length:=by
         have hmem:=hs.2.2.2.2.2 x.l (by rw [←hsl];exact List.getElem_mem _)
         exact hmem.2.1 tp (by omega)
       refine zb3 (by unfold I64;omega) ?_
       refine zb2 u25 ty3 hxv (k:=tp) (by omega) ?_
       have hg10':w4.heap.size<w10.heap.size:=by omega
       refine zdL (α:=DState) (lo:=w3.heap.size) (hi:=w10.heap.size) ty3 hL3' (fun c hcm=>by have:=hFb c hcm;omega) (by omega) (zbT (x:=st x.l tp+1) (by unfold I64;omega)) fun w11 hc11 hv11=>?_
       have hs11:=hc11.size
       refine hres _ w11 (Ext.chgI hx310 hc11 (Nat.le_refl _)) (hv11.mono (Nat.le_refl _) (by omega)) ?_
       unfold zby
       rw [←hI,if_neg q4,if_pos q9]
       simp only [DState.mk.injEq,true_and,e1,List.set_set]
       congr 1
       unfold zhQ
       rw [←hxl,hlen,if_neg (by omega),show top+1-1=top by omega,show top+1-2=tp by omega]
     refine hres _ w10 hx310 ⟨F',hO',fun c hcm=>by have:=hFb c hcm;omega⟩ ?_
     unfold zby
     rw [←hI,if_neg q4,if_pos q9]
     simp only [DState.mk.injEq,true_and,e1]
     congr 1
     unfold zhQ
     have ht0:top=0:=by omega
     subst ht0
     rw [←hxl,hlen]
     simp
   exact ⟨by rw [hn],hx38,same w8 (Ext.refl w8) (by omega)⟩
 rintro uj w9 ⟨hu,hx9,z',hv9,hz1,hz2,hz3,hz4,ho4,ho9⟩
 simp only [List.map_cons,List.map_nil,List.cons.injEq,and_true] at hu
 rw [hu]
 have hs9:=hx9.size
 obtain ⟨hk',hxk⟩:=List.getElem?_eq_some_iff.1 hz4
 have hg9:=hv9.lt
 obtain ⟨F,hO,hF⟩:=hv9
 obtain ⟨G1,hL1⟩:=zcc (Lens.var hO)
 obtain ⟨b2,a2,cap2,G2,hv2,_,hL2⟩:=hL1.elemV hk'
 rw [hxk] at hL2
 refine zl2 (e:=3) u25 ty3 hL2 htl fun b3 o3 G3 hL3=>?_
 have hI64:I64 (zcn c s tn):=by
   have hto:I.op=2∨I.op=3→I64 I.to:=fun h=>by
     have:=hR.2.2.2
     rw [←hI,if_pos h] at this
     obtain ⟨i,hi,_,_,hpr⟩:=hc.f.find hc.1.procs8.2 hat0 hatlt.2
     have h1:=hc.f.nonneg hi
     have h2:=(hc.f.lt i hi).2
     rw [hpr,zcT,Int.toNat_natCast] at this
     unfold I64;omega
   unfold zcn
   rw [←hI]
   split
   · split
     · exact hto (.inl (by assumption))
     unfold I64;omega
   split
   · exact hto (.inr (by assumption))
   unfold I64;omega
 refine zdL ty3 hL3 hF (by omega) (zbT hI64) fun w10 hc10 hv10=>?_
 have hs10:=hc10.size
 refine hres _ w10 (Ext.chgI hx9 hc10 (Nat.le_refl _)) (zjp (hv10.mono (Nat.le_refl _) (by omega))) ?_
 unfold zby DStV.er
 rw [←hI,if_neg ho4,if_neg ho9]
 simp only [DState.mk.injEq,hz1,hz2,true_and]
 have e1:((tn:Int)).toNat=tn:=by omega
 have e2:(stk s tn).length-1=top:=by rw [←hxl];omega
 rw [List.map_set,hz3,hxl,e1,e2]
end Go.Proofs.YtbnjpfjjmhodnaaGreat
