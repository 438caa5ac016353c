/-
  Parts of the proof, put together by program.
-/
import Derived.Test.YtbnjpfjjmhodnaaGreatPFnRaces4
set_option linter.unusedVariables false
set_option linter.unusedSimpArgs false
set_option linter.unusedSectionVars false
namespace Go.Sh
open Rep (rep)
instance:RepZ Raw:=⟨⟨.slice none 0 0⟩,[.slice none 0 0],fun _=>⟨rfl,rfl,rfl⟩⟩
abbrev RIns:=RV DIns 77
structure DEm where
 a:Raw
 b:Raw
 c:Raw
 ins:RIns
theorem DEm.ext_iff {x y:DEm}:x=y↔(x.a=y.a∧x.b=y.b∧x.c=y.c∧x.ins=y.ins):=⟨fun h=>by rw [h];exact ⟨rfl,rfl,rfl,rfl⟩,fun h=>by obtain ⟨h0,h1,h2,h3⟩:=h;cases x;cases y;simp only at h0 h1 h2 h3;simp only [h0,h1,h2,h3]⟩
instance:Rep DEm:=Rep.via fun x=>(x.a,x.b,x.c,x.ins)
theorem zk9 {w:World} {b o:Nat} {x:DEm} (h:At w b o x):At w b (o+3) x.ins:=za4 (α:=Raw) (β:=RIns) (p:=(x.c,x.ins)) (za4 (α:=Raw) (β:=Raw×RIns) (p:=(x.b,x.c,x.ins)) (za4 (α:=Raw) (β:=Raw×Raw×RIns) (p:=(x.a,x.b,x.c,x.ins)) h))
instance:RepZ DEm:=⟨⟨(RepZ.zv:Raw),(RepZ.zv:Raw),(RepZ.zv:Raw),(RepZ.zv:RIns)⟩,RepZ.zc (Raw×Raw×Raw×RIns),fun w=>RepZ.zr (α:=Raw×Raw×Raw×RIns) w⟩
theorem zpg {γ:Type} {H:List Nat→World→γ→Prop} {F:List Nat} {w:World} {b o:Nat} {G:List Nat} {x:DEm} {upd:DEm→γ} (h:Lens H F w b o G x upd) :
   ∃ G1,Lens H F w b (o+0) G1 x.a (fun y=>upd ⟨y,x.b,x.c,x.ins⟩):=by
 have h':Lens H F w b o G (x.a,x.b,x.c,x.ins) (fun p:Raw×Raw×Raw×RIns=>upd ⟨p.1,p.2.1,p.2.2.1,p.2.2.2⟩):=⟨h.here,h.sub,fun w' G' y' hc hO hs=>h.back w' G' _ hc hO hs⟩
 obtain ⟨G0,h'⟩:=h'.fst
 exact ⟨_,h'⟩
theorem zph {γ:Type} {H:List Nat→World→γ→Prop} {F:List Nat} {w:World} {b o:Nat} {G:List Nat} {x:DEm} {upd:DEm→γ} (h:Lens H F w b o G x upd) :
   ∃ G1,Lens H F w b (o+1) G1 x.b (fun y=>upd ⟨x.a,y,x.c,x.ins⟩):=by
 have h':Lens H F w b o G (x.a,x.b,x.c,x.ins) (fun p:Raw×Raw×Raw×RIns=>upd ⟨p.1,p.2.1,p.2.2.1,p.2.2.2⟩):=⟨h.here,h.sub,fun w' G' y' hc hO hs=>h.back w' G' _ hc hO hs⟩
 obtain ⟨G0,h'⟩:=h'.snd
 obtain ⟨G1,h'⟩:=h'.fst
 exact ⟨_,h'⟩
theorem zhA {γ:Type} {H:List Nat→World→γ→Prop} {F:List Nat} {w:World} {b o:Nat} {G:List Nat} {x:DEm} {upd:DEm→γ} (h:Lens H F w b o G x upd) :
   ∃ G1,Lens H F w b (o+3) G1 x.ins (fun y=>upd ⟨x.a,x.b,x.c,y⟩):=by
 have h':Lens H F w b o G (x.a,x.b,x.c,x.ins) (fun p:Raw×Raw×Raw×RIns=>upd ⟨p.1,p.2.1,p.2.2.1,p.2.2.2⟩):=⟨h.here,h.sub,fun w' G' y' hc hO hs=>h.back w' G' _ hc hO hs⟩
 obtain ⟨G0,h'⟩:=h'.snd
 obtain ⟨G1,h'⟩:=h'.snd
 obtain ⟨G2,h'⟩:=h'.snd
 exact ⟨_,h'⟩
section
variable {P:Program} {w w':World} {lo hi:Nat}
theorem zgU {op arg to:Int} {t0 t1 t2 t3:Value} {t:DTerm} (h0:I64 op) (h1:I64 arg) (h2:I64 to) (ht:OwnI lo hi w (.agg #[t0,t1,t2,t3]) t):OwnI lo hi w (.agg #[.int .i64 op,.int .i64 arg,t0,t1,t2,t3,.int .i64 to]) (⟨op,arg,t,to⟩:DIns):=by
 obtain ⟨F,⟨⟨cs,hr,hv⟩,hnd,hw⟩,hF⟩:=ht
 have hcs:cs=[t0,t1,t2,t3]:=by
   simp only [mkv,Rep.agg,cond_true,Value.agg.injEq] at hv
   have:=congrArg Array.toList hv
   simpa using this.symm
 subst hcs
 refine ⟨F,⟨⟨[.int .i64 op,.int .i64 arg,t0,t1,t2,t3,.int .i64 to],?_,rfl⟩,hnd,hw⟩,hF⟩
 have:=zaR (F:=[]) (c1:=[.int .i64 op]) (show rep [] w [.int .i64 op] op from ⟨rfl,rfl,h0⟩) (zaR (F:=[]) (c1:=[.int .i64 arg]) (show rep [] w [.int .i64 arg] arg from ⟨rfl,rfl,h1⟩) (zaR hr (show rep [] w [.int .i64 to] to from ⟨rfl,rfl,h2⟩)))
 simp only [List.nil_append,List.append_nil] at this
 exact this
theorem ztJ {X:Nat→Prop} {t g:Nat} {v:Value} {K:Value→Prop} (h:Var P t w g v) (hX:¬X g) (k:K v):RDX P X (Instr.loadAt t (.pointer (some ⟨g,0,none⟩))) w K:=by
 refine ⟨v,fun w' hx=>?_,k⟩
 obtain ⟨u,h1,h2⟩:=zco (P:=P) (K:=fun u=>u=v) (h.keep (hx.block g h.lt hX)) (Ext.refl w') rfl
 subst h2
 exact h1 w' (Ext.refl w')
theorem znf {α β:Type} [Rep α] [Rep β] {e b o g:Nat} {F G:List Nat} {t by_:Nat} {x:RV β e} {upd:RV β e→α} {w2:World} {v':Value} {l':List β} {G':List Nat} {K:World→Prop} (ht:tyI P t=some (1,by_,false)) (hL:Lens (VH g) (g :: F) w b o G x upd) (hlt:∀ c∈g :: F,c<w.heap.size) (hc:Chg G w w2)
   (hR:RowG G' e w2 v' l') (hN:G'.Nodup) (hs:∀ c∈G',c∈G∨c∉g :: F)
   (k:∀ w3,Chg (b :: G) w w3→(∃ F',OAt F' w3 g 0 (upd ⟨v',l'⟩)∧∀ c∈F',c∈g :: F∨c∈G')→K w3):OPU P (Instr.storeAt t (.pointer (some ⟨b,o,none⟩)) v') w2 K:=by
 obtain ⟨cs,⟨rfl,hrow⟩,hr,hn,hw,hb,hwb⟩:=hL.here
 have hbl:b<w.heap.size:=hlt b (hL.sub b (by simp))
 have hbk:w2.heap[b]?=w.heap[b]?:=hc.block b hbl hb
 have hwb2:∃ c e,w2.heap[b]?=some (.cells c e (0,0)):=by obtain ⟨c,e,h⟩:=hwb;exact ⟨c,e,by rw [hbk];exact h⟩
 have hbG':b∉G':=fun hm=>by
   rcases hs b hm with h | h
   · exact hb h
   exact h (hL.sub b (by simp))
 refine zsb ht hwb2 (zbo hr hbk) hrow.one hR.one fun w3 hc3 hr3=>?_
 have hcat:ChgAt b o 1 G w w3:=by
   refine ⟨(hc.mono (by simp +contextual)).trans (hc3.chg.mono (by simp +contextual)),fun c e hcc=>?_⟩
   obtain ⟨c',h1,h2⟩:=hc3.cell c e (by rw [hbk];exact hcc)
   exact ⟨c',h1,h2⟩
 have hkeep:∀ c∈G',w3.heap[c]?=w2.heap[c]?:=fun c hcm=>hc3.chg.block c (hR.lt c hcm) (by simp;exact fun e=>hbG' (e▸hcm))
 obtain ⟨c',e',hc'⟩:=hwb2
 obtain ⟨c'',hc'',_⟩:=hc3.cell c' e' hc'
 obtain ⟨F',h1,h2⟩:=hL.back w3 G' ⟨v',l'⟩ hcat ⟨[v'],⟨rfl,hR.keep hkeep⟩,hr3,hN,(hR.keep hkeep).wr,hbG',c'',e',hc''⟩ hs
 exact k w3 hcat.chg ⟨F',h1,h2⟩
end
end Go.Sh
namespace Go.Proofs.YtbnjpfjjmhodnaaGreat
open Go Go.Sh Go.Proofs
open Rep (rep)
def F160 (a0 a1:Value) (w:World) (R:VW):Prop:=
 oP (Instr.box 77 a1) w fun x3 w=>
 (fun w=>XR fun X=>NIL a0 <|
 RDX tp X (Instr.fieldAt 169 a0 1) w fun x8=>
 RDX tp X (Instr.loadAt 26 x8) w fun x9=>
 RDX tp X (Instr.loadAt 77 x3) w fun x10=>
 (fun w_=>oP (Instr.buildSlice 26 1 #[(0,x10)]) w_ fun x11 w=>
 ExtX X w_ w ∧
 ((fun w_=>oP (Builtin.append_ #[26,26] 26 [x9,x11].toArray) w_ fun x12 w=>
 ExtX X w_ w ∧
 (NIL a0 <|
 RDX tp X (Instr.fieldAt 169 a0 1) w fun x14=>
 oS 26 x14 x12 w fun w=>
 NIL a0 <|
 rF 169 a0 1 w fun x17=>
 rL 26 x17 w fun x18=>
 rN 26 3 x18 w fun x19=>
 rB .sub 3 T0 U0 x19 (iV 1) w fun x20=>
 R x20 w)) w)) w) (World.drew1 w)
def cfg160:Cfg:={ ext:=extL,joins:=[],loops:=[],draws:=[(1,[0,1,2,3,4,5,6,7,8,9,10],192)],pars:=[],xs:=[1] }
theorem F160_call {a0 a1:Value} {w:World} {R:VW} (h:F160 a0 a1 w R):cL 160 [a0,a1] w R:=co (g:=cfg160) Tryz.func160 (by kernel_rfl) (by kernel_rfl) (by kernel_rfl) h
section
variable {w:World} {lo hi:Nat} {K:Value→Prop}
theorem zng {a b:Int} {u:Value} {t:DTerm} (ha:I64 a) (hb:I64 b) (hu:OwnI lo hi w u t) (k:∀ v,OwnI lo hi w v (⟨a,b,t,0⟩:DIns)→K v):RD Tryz.prog (Instr.build 77 #[(0,.int .i64 a),(1,.int .i64 b),(2,u)]) w K:=by
 obtain ⟨p,q,rfl⟩:=zfS hu.is
 exact zaS (cells:=#[.int .i64 a,.int .i64 b,.int .i64 t.kind,.int .i64 t.num,.string t.name,.slice p t.kids.length q,.int .i64 0]) (by kernel_rfl) (k _ (zgU ha hb zi4 hu))
theorem zj3 {a:Int} {u:Value} {t:DTerm} (ha:I64 a) (hu:OwnI lo hi w u t) (k:∀ v,OwnI lo hi w v (⟨a,0,t,0⟩:DIns)→K v):RD Tryz.prog (Instr.build 77 #[(0,.int .i64 a),(2,u)]) w K:=by
 obtain ⟨p,q,rfl⟩:=zfS hu.is
 exact zaS (cells:=#[.int .i64 a,.int .i64 0,.int .i64 t.kind,.int .i64 t.num,.string t.name,.slice p t.kids.length q,.int .i64 0]) (by kernel_rfl) (k _ (zgU ha zi4 zi4 hu))
theorem zfY {a b:Int} (ha:I64 a) (hb:I64 b) (k:∀ v,OwnI lo hi w v (⟨a,b,term0,0⟩:DIns)→K v):RD Tryz.prog (Instr.build 77 #[(0,.int .i64 a),(1,.int .i64 b)]) w K:=
 zaS (cells:=#[.int .i64 a,.int .i64 b,.int .i64 0,.int .i64 0,.string nO,.slice none 0 0,.int .i64 0]) (by kernel_rfl) (k _ (zgU ha hb zi4 zeM))
theorem zpi {a b:Int} (ha:I64 a) (hb:I64 b) (k:∀ v,OwnI lo hi w v (⟨a,0,term0,b⟩:DIns)→K v):RD Tryz.prog (Instr.build 77 #[(0,.int .i64 a),(3,.int .i64 b)]) w K:=
 zaS (cells:=#[.int .i64 a,.int .i64 0,.int .i64 0,.int .i64 0,.string nO,.slice none 0 0,.int .i64 b]) (by kernel_rfl) (k _ (zgU ha zi4 hb zeM))
theorem zje {a:Int} (ha:I64 a) (k:∀ v,OwnI lo hi w v (⟨a,0,term0,0⟩:DIns)→K v):RD Tryz.prog (Instr.build 77 #[(0,.int .i64 a)]) w K:=
 zaS (cells:=#[.int .i64 a,.int .i64 0,.int .i64 0,.int .i64 0,.string nO,.slice none 0 0,.int .i64 0]) (by kernel_rfl) (k _ (zgU ha zi4 zi4 zeM))
end
def EmF (W:World) (g:Nat) (p:DProg) (L:List DIns) (F:List Nat) (w:World):Prop:=
 ∃ c0 c1 c2 rv,Is W (.agg #[c0,c1,c2]) p∧OAt F w g 0 (⟨⟨c0⟩,⟨c1⟩,⟨c2⟩,⟨rv,L⟩⟩:DEm)∧Ext W w∧W.heap.size≤g∧∀ c∈F,W.heap.size≤c
section
variable {W w w':World} {g:Nat} {p:DProg} {L:List DIns} {F:List Nat}
theorem EmF.ext (h:EmF W g p L F w) (hx:Ext w w'):EmF W g p L F w':=by
 obtain ⟨c0,c1,c2,rv,h1,h2,h3,h4⟩:=h;exact ⟨c0,c1,c2,rv,h1,h2.ext hx,h3.trans hx,h4⟩
theorem EmF.old (h:EmF W g p L F w):Ext W w:=by obtain ⟨c0,c1,c2,rv,h1,h2,h3,h4⟩:=h;exact h3
theorem EmF.lt (h:EmF W g p L F w):g<w.heap.size∧(∀ c∈F,c<w.heap.size)∧W.heap.size≤g∧g∉F∧∀ c∈F,W.heap.size≤c:=by
 obtain ⟨c0,c1,c2,rv,h1,h2,h3,h4,h5⟩:=h
 have:=h2.lts
 obtain ⟨_,_,_,_,_,h6,_⟩:=h2
 exact ⟨this g (by simp),fun c hc=>this c (by simp [hc]),h4,h6,h5⟩
theorem EmF.keep (h:EmF W g p L F w) (hk:∀ c∈g :: F,w'.heap[c]?=w.heap[c]?) (hx:Ext W w'):EmF W g p L F w':=by
 obtain ⟨c0,c1,c2,rv,h1,h2,h3,h4⟩:=h;exact ⟨c0,c1,c2,rv,h1,h2.keep hk,hx,h4⟩
theorem zgV {c0 c1 c2:Value} (h:Is W (.agg #[c0,c1,c2]) p):Is W c0 p.globals∧Is W c1 p.locks∧Is W c2 p.procs:=by
 obtain ⟨F,cs,hr,hv⟩:=h
 have hcs:cs=[c0,c1,c2]:=by
   simp only [mkv,Rep.agg,cond_true,Value.agg.injEq] at hv
   have:=congrArg Array.toList hv
   simpa using this.symm
 subst hcs
 obtain ⟨F1,F2,x1,x2,rfl,hx,h1,F3,F4,x3,x4,rfl,hx2,h2,h3⟩:=hr
 have e1:∃ a,x1=[a]:=by obtain ⟨a,cap,Fi,xs,rfl,_⟩:=h1;exact ⟨_,rfl⟩
 have e2:∃ a,x3=[a]:=by obtain ⟨a,cap,Fi,xs,rfl,_⟩:=h2;exact ⟨_,rfl⟩
 have e3:∃ a,x4=[a]:=by obtain ⟨a,cap,Fi,xs,rfl,_⟩:=h3;exact ⟨_,rfl⟩
 obtain ⟨a1,rfl⟩:=e1
 obtain ⟨a2,rfl⟩:=e2
 obtain ⟨a3,rfl⟩:=e3
 subst hx2
 simp only [List.cons_append,List.nil_append,List.cons.injEq,and_true] at hx
 obtain ⟨rfl,rfl,rfl⟩:=hx
 exact ⟨⟨F1,_,h1,rfl⟩,⟨F3,_,h2,rfl⟩,⟨F4,_,h3,rfl⟩⟩
theorem zuJ {K:Value→Prop} (h:EmF W g p L F w) (k:∀ v,Is W v p.globals→K v) :
   RD Tryz.prog (Instr.fieldAt 169 (.pointer (some ⟨g,0,none⟩)) 0) w fun x26=>RD Tryz.prog (Instr.fieldAt 112 x26 0) w fun x27=>RD Tryz.prog (Instr.loadAt 24 x27) w fun x28=>K x28:=by
 obtain ⟨c0,c1,c2,rv,h1,h2,h3,h4,h5⟩:=h
 obtain ⟨G1,hL⟩:=zpg (Lens.var h2)
 obtain ⟨cs,⟨_,rfl,_⟩,hr,_⟩:=hL.here
 refine zaa zm1 ?_
 refine zaa zhj ?_
 exact zi6 zcj hr (k _ (zgV h1).1)
theorem zsV {K:Value→Prop} (h:EmF W g p L F w) (k:∀ v,Is W v p.locks→K v) :
   RD Tryz.prog (Instr.fieldAt 169 (.pointer (some ⟨g,0,none⟩)) 0) w fun x26=>RD Tryz.prog (Instr.fieldAt 112 x26 1) w fun x27=>RD Tryz.prog (Instr.loadAt 24 x27) w fun x28=>K x28:=by
 obtain ⟨c0,c1,c2,rv,h1,h2,h3,h4,h5⟩:=h
 obtain ⟨G1,hL⟩:=zph (Lens.var h2)
 obtain ⟨cs,⟨_,rfl,_⟩,hr,_⟩:=hL.here
 refine zaa zm1 ?_
 refine zaa ziI ?_
 exact zi6 zcj hr (k _ (zgV h1).2.1)
theorem zsW {K:Value→Prop} (h:EmF W g p L F w) (k:∀ v,Is W v p→K v) :
   RD Tryz.prog (Instr.fieldAt 169 (.pointer (some ⟨g,0,none⟩)) 0) w fun x42=>RD Tryz.prog (Instr.loadAt 112 x42) w fun x43=>K x43:=by
 obtain ⟨c0,c1,c2,rv,h1,h2,h3,h4,h5⟩:=h
 refine zaa zm1 ?_
 obtain ⟨F1,cs1,hc1,hr1⟩:=h1
 have hcs:cs1=[c0,c1,c2]:=by
   simp only [mkv,Rep.agg,cond_true,Value.agg.injEq] at hr1
   have:=congrArg Array.toList hr1
   simpa using this.symm
 subst hcs
 obtain ⟨cs,hrr,hrg,_⟩:=h2
 obtain ⟨F2,F3,x1,x2,_,rfl,⟨_,rfl,_⟩,F4,F5,x3,x4,_,rfl,⟨_,rfl,_⟩,F6,F7,x5,x6,_,rfl,⟨_,rfl,_⟩,_⟩:=hrr
 have hr3:w.rangeAt g 0 [c0,c1,c2]:=by
   have:([c0]++([c1]++([c2]++x6)))=[c0,c1,c2]++x6:=rfl
   rw [this] at hrg
   exact (zaD hrg).1
 have hat:At w g (0+0) p:=⟨F1,_,zbY hc1 h3,hr3⟩
 have hatB:AtB W w g (0+0) p:=⟨F1,_,hc1,hr3⟩
 exact zd0 zfx hatB h3 (Ext.refl w) fun v hv=>k v hv
theorem zgW {lo hi:Nat} {u:Value} {x:DIns} (h:EmF W g p L F w) (hx:OwnI lo hi w u x) (hgl:g<lo) (hFl:∀ c∈F,c<lo) (hlo:lo≤w.heap.size) (hL:L.length≤1000000) :
   CALL Tryz.prog 160 [.pointer (some ⟨g,0,none⟩),u] w fun r w'=>r=.int .i64 (L.length:Int)∧Chg (g :: F) w w'∧∃ F',EmF W g p (L++[x]) F' w'∧∀ c∈F',c∈F∨lo≤c:=by
 obtain ⟨e1,e2,e3,e4,e5⟩:=h.lt
 obtain ⟨GX,hMX,hGX⟩:=hx
 refine F160_call ?_
 unfold F160
 refine zaW zc6 rfl hMX.is (Ext.refl w) fun w1 hx1 hA1 hV1=>?_
 have hs1:=hx1.size
 have hx2:=zaj w1
 have hs2:=hx2.size
 have hV2:=hV1.ext hx2
 have hx12:=hx1.trans hx2
 generalize World.drew1 w1=w2 at *
 have hM2:=hMX.ext hx12
 obtain ⟨c0,c1,c2,rv,h1,h2,h3,h4,h5⟩:=h.ext hx12
 obtain ⟨G1,hL1⟩:=zhA (Lens.var h2)
 obtain ⟨cs1,⟨rfl,hrow⟩,hr1,hnG,_,hg1,_⟩:=hL1.here
 have hGF:∀ c∈G1,c∈F:=fun c hc=>by
   rcases List.mem_cons.1 (hL1.sub c (by simp [hc])) with e | h
   · exact absurd (e▸hc) hg1
   exact h
 have hlts:=h2.lts
 refine XR.mk (fun c=>c∈F) ?_
 refine NIL.mk rfl ?_
 refine zk1 zgi ?_
 refine zof zcO hr1 (fun h=>e4 h) ?_
 refine ztJ hV2 (fun h=>by have:=e2 _ h;omega) ?_
 refine ze8 (β:=DIns) (G:=G1) u26 zc6 z77 zvB (by decide) hrow hnG hM2 (fun c hc hc'=>by have:=hGX c hc;have:=hFl c (hGF c hc');omega) (by rw [zap];show L.length+1≤_;omega) (by show (L.length+1)*_≤_;omega) (fun w3 v12 w4 G' hx3 hc4 hR4 hN4 hs4=>?_) fun s' w3 hx3 h=>⟨hx3.toX,h⟩
 have hs3:=hx3.size
 refine ⟨hc4.toX (fun c hc=>hGF c hc),?_⟩
 refine NIL.mk rfl ?_
 refine zk1 zgi ?_
 have hc24:Chg G1 w2 w4:=(hx3.chg G1).trans hc4
 refine znf zcO hL1 hlts hc24 hR4 hN4 (fun c hc=>?_) fun w5 hc5 ⟨F',hO5,hF5⟩=>?_
 · rcases hs4 c hc with h | h | h
   · exact .inl h
   · refine .inr fun hm=>?_
     have:=hGX c h
     rcases List.mem_cons.1 hm with e | hm
     · omega
     have:=hFl c hm;omega
   exact .inr fun hm=>by have:=hlts c hm;omega
 have hgF5:g∉F':=by obtain ⟨_,_,_,_,_,hn,_⟩:=hO5;exact hn
 have hc25:Chg (g :: F) w w5:=(hx12.chg _).trans (hc5.mono fun c hc=>by
   rcases List.mem_cons.1 hc with rfl | hc
   · simp
   simp [hGF c hc])
 refine NIL.mk rfl ?_
 refine zaa zgi ?_
 refine zab (α:=RIns) zcO (zk9 hO5.at) (Ext.refl w5) fun v18 k18=>?_
 obtain ⟨q18,h18⟩:=ztC k18
 have q18:v18=v12:=q18
 have h18:Is w5 v12 (L++[x]):=h18
 rw [q18]
 refine zag u26 h18 ?_
 have hln:((L++[x]).length:Int)=(L.length:Int)+1:=by simp
 refine zbp (by show I64 (((L++[x]).length:Int)-1);rw [hln];unfold I64;omega) ?_
 refine ⟨?_,hc25,F',⟨c0,c1,c2,v12,h1,hO5,h.old.chgL hc25 (fun c hc=>?_),h4,fun c hc=>?_⟩,fun c hc=>?_⟩
 · show Value.int .i64 (((L++[x]).length:Int)-1)=_
   rw [hln];congr 1;omega
 · rcases List.mem_cons.1 hc with rfl | hc
   · exact h4
   exact e5 c hc
 · rcases hF5 c hc with h | h
   · rcases List.mem_cons.1 h with rfl | h
     · exact absurd hc hgF5
     exact e5 c h
   rcases hs4 c h with h | h | h
   · exact e5 c (hGF c h)
   · have:=hGX c h;omega
   omega
 rcases hF5 c hc with h | h
 · rcases List.mem_cons.1 h with rfl | h
   · exact absurd hc hgF5
   exact .inl h
 rcases hs4 c h with h | h | h
 · exact .inl (hGF c h)
 · exact .inr (hGX c h).1
 exact .inr (by omega)
theorem zij {A R:List DIns} {y:DIns} {k:Nat} {K:World→Prop} (h:EmF W g p (A++y :: R) F w) (hk:A.length=k) (hL:(A++y :: R).length≤1000000)
   (kk:∀ w' F',Chg (g :: F) w w'→EmF W g p (A++(⟨y.op,y.arg,y.term,((A++y :: R).length:Int)⟩:DIns) :: R) F' w'→(∀ c∈F',c∈F)→K w') :
   NIL (.pointer (some ⟨g,0,none⟩))<|RD Tryz.prog (Instr.fieldAt 169 (.pointer (some ⟨g,0,none⟩)) 1) w fun x110=>RD Tryz.prog (Instr.loadAt 26 x110) w fun x111=>
     NIL (.pointer (some ⟨g,0,none⟩))<|RD Tryz.prog (Instr.fieldAt 169 (.pointer (some ⟨g,0,none⟩)) 1) w fun x115=>RD Tryz.prog (Instr.loadAt 26 x115) w fun x116=>
     RD Tryz.prog (Builtin.len_ #[26] 3 [x116].toArray) w fun x117=>RD Tryz.prog (Instr.indexAt 26 x111 (.int .i64 (k:Int))) w fun x118=>RD Tryz.prog (Instr.fieldAt 77 x118 3) w fun x119=>
     OPU Tryz.prog (Instr.storeAt 3 x119 x117) w fun w=>K w:=by
 obtain ⟨e1,e2,e3,e4,e5⟩:=h.lt
 obtain ⟨c0,c1,c2,rv,h1,h2,h3,h4,h5⟩:=h
 have hlts:=h2.lts
 have hkl:k<(A++y :: R).length:=by simp;omega
 obtain ⟨G1,hL1⟩:=zhA (Lens.var h2)
 obtain ⟨cs1,⟨rfl,hrow⟩,hr1,_⟩:=hL1.here
 obtain ⟨b2,a2,cap2,G2,hv2,hG21,hL2⟩:=hL1.elemV (k:=k) hkl
 refine NIL.mk rfl ?_
 refine zaa zgi ?_
 refine zi6 zcO hr1 ?_
 refine NIL.mk rfl ?_
 refine zaa zgi ?_
 refine zi6 zcO hr1 ?_
 refine zag u26 (show Is w rv (A++y :: R) from hrow.own.is) ?_
 refine zk6 u26 zc6 hv2 hkl ?_
 obtain ⟨G3,hL3⟩:=zmY hL2
 refine zaa zeg ?_
 refine zkw ty3 hL3 (zcg (by unfold I64;omega)) (by simp) fun w' hc ⟨F',hO,hF'⟩=>?_
 have hgF':g∉F':=by obtain ⟨_,_,_,_,_,hn,_⟩:=hO;exact hn
 have hF:∀ c∈F',c∈F:=fun c hcm=>by
   rcases hF' c hcm with h | h
   · rcases List.mem_cons.1 h with rfl | h
     · exact absurd hcm hgF'
     exact h
   simp at h
 refine kk w' F' hc ⟨c0,c1,c2,rv,h1,?_,h3.chgL hc fun c hcm=>?_,h4,fun c hcm=>e5 c (hF c hcm)⟩ hF
 · have hO:OAt F' w' g 0 (⟨⟨c0⟩,⟨c1⟩,⟨c2⟩,⟨rv,(A++y :: R).set k ⟨((A++y :: R)[k]'hkl).op,((A++y :: R)[k]'hkl).arg,((A++y :: R)[k]'hkl).term,((A++y :: R).length:Int)⟩⟩⟩:DEm):=hO
   rw [zk2 hk,zhy hk hkl] at hO
   exact hO
 rcases List.mem_cons.1 hcm with rfl | hcm
 · exact e3
 exact e5 c hcm
end
def F159 (a0 a1:Value) (w:World) (R:VW):Prop:=
 LOOPI [4] [(iV 0)] w fun u1 w next1=>
 rN 162 3 a1 w fun x11=>
 rC (u1 4) x11 w fun x12=>
 BR x12
 (rX 162 a1 (u1 4) w fun x17=>
 rL 209 x17 w fun x18=>
 oP (Instr.alloc 209 true (.tuple #[])) w fun x5 w=>
 oS 209 x5 x18 w fun w=>
 rF 209 x5 0 w fun x19=>
 rL 3 x19 w fun x20=>
 rB .eql 3 T0 U0 x20 (iV 1) w fun x22=>
 BR x22
 ((fun w=>NIL a0 <|
 rF 169 a0 0 w fun x26=>
 rF 112 x26 0 w fun x27=>
 rL 24 x27 w fun x28=>
 rF 209 x5 1 w fun x29=>
 rL 9 x29 w fun x30=>
 rF 209 x5 2 w fun x32=>
 rL 75 x32 w fun x33=>
 (fun w_=>cL 150 [x28,x30] w_ fun x31 w=>
 Ext w_ w ∧
 (fun w_=>cL 226 [x33] w_ fun x34 w=>
 Ext w_ w ∧
 rD (Instr.build 77 #[(0,(iV 1)),(1,x31),(2,x34)]) w fun x35=>
 cL 160 [a0,x35] w fun x36 w=>
 rA (u1 4) (iV 1) w fun x14=>
 next1 [x14] w) w) w) (World.drew1 w))
 (rB .eql 3 T0 U0 x20 (iV 4) w fun x38=>
 BR x38
 ((fun w=>NIL a0 <|
 rF 169 a0 0 w fun x42=>
 rL 112 x42 w fun x43=>
 rF 209 x5 1 w fun x44=>
 rL 9 x44 w fun x45=>
 (fun w_=>cL 225 [x43,x45] w_ fun x46 w=>
 Ext w_ w ∧
 rD (Instr.build 77 #[(0,(iV 4)),(1,x46)]) w fun x47=>
 cL 160 [a0,x47] w fun x48 w=>
 rA (u1 4) (iV 1) w fun x14=>
 next1 [x14] w) w) (World.drew1 w))
 (rB .eql 3 T0 U0 x20 (iV 5) w fun x50=>
 BR x50
 ((fun w=>NIL a0 <|
 rF 169 a0 0 w fun x54=>
 rL 112 x54 w fun x55=>
 rF 209 x5 1 w fun x56=>
 rL 9 x56 w fun x57=>
 (fun w_=>cL 225 [x55,x57] w_ fun x58 w=>
 Ext w_ w ∧
 rD (Instr.build 77 #[(0,(iV 5)),(1,x58)]) w fun x59=>
 cL 160 [a0,x59] w fun x60 w=>
 rA (u1 4) (iV 1) w fun x14=>
 next1 [x14] w) w) (World.drew1 w))
 (rB .eql 3 T0 U0 x20 (iV 6) w fun x62=>
 BR x62
 ((fun w=>NIL a0 <|
 rF 169 a0 0 w fun x66=>
 rF 112 x66 1 w fun x67=>
 rL 24 x67 w fun x68=>
 rF 209 x5 1 w fun x69=>
 rL 9 x69 w fun x70=>
 (fun w_=>cL 150 [x68,x70] w_ fun x71 w=>
 Ext w_ w ∧
 rD (Instr.build 77 #[(0,(iV 6)),(1,x71)]) w fun x72=>
 cL 160 [a0,x72] w fun x73 w=>
 rA (u1 4) (iV 1) w fun x14=>
 next1 [x14] w) w) (World.drew1 w))
 (rB .eql 3 T0 U0 x20 (iV 7) w fun x75=>
 BR x75
 ((fun w=>NIL a0 <|
 rF 169 a0 0 w fun x79=>
 rF 112 x79 1 w fun x80=>
 rL 24 x80 w fun x81=>
 rF 209 x5 1 w fun x82=>
 rL 9 x82 w fun x83=>
 (fun w_=>cL 150 [x81,x83] w_ fun x84 w=>
 Ext w_ w ∧
 rD (Instr.build 77 #[(0,(iV 7)),(1,x84)]) w fun x85=>
 cL 160 [a0,x85] w fun x86 w=>
 rA (u1 4) (iV 1) w fun x14=>
 next1 [x14] w) w) (World.drew1 w))
 (rB .eql 3 T0 U0 x20 (iV 8) w fun x88=>
 BR x88
 (rD (Instr.build 77 #[(0,(iV 8))]) w fun x90=>
 cL 160 [a0,x90] w fun x91 w=>
 rA (u1 4) (iV 1) w fun x14=>
 next1 [x14] w)
 (rB .eql 3 T0 U0 x20 (iV 3) w fun x93=>
 BR x93
 (rF 209 x5 2 w fun x95=>
 rL 75 x95 w fun x96=>
 cL 226 [x96] w fun x97 w=>
 rD (Instr.build 77 #[(0,(iV 2)),(2,x97)]) w fun x98=>
 cL 160 [a0,x98] w fun x99 w=>
 rF 209 x5 3 w fun x101=>
 rL 162 x101 w fun x102=>
 cL 159 [a0,x102] w fun x103 w=>
 rD (Instr.build 77 #[(0,(iV 3)),(3,x99)]) w fun x106=>
 cL 160 [a0,x106] w fun x107 w=>
 (fun w=>NIL a0 <|
 rF 169 a0 1 w fun x110=>
 rL 26 x110 w fun x111=>
 NIL a0 <|
 rF 169 a0 1 w fun x115=>
 rL 26 x115 w fun x116=>
 rN 26 3 x116 w fun x117=>
 rX 26 x111 x99 w fun x118=>
 rF 77 x118 3 w fun x119=>
 oS 3 x119 x117 w fun w=>
 rA (u1 4) (iV 1) w fun x14=>
 next1 [x14] w) (World.drew1 w))
 (rB .eql 3 T0 U0 x20 (iV 2) w fun x121=>
 BR x121
 (rF 209 x5 2 w fun x123=>
 rL 75 x123 w fun x124=>
 cL 226 [x124] w fun x125 w=>
 rD (Instr.build 77 #[(0,(iV 2)),(2,x125)]) w fun x126=>
 cL 160 [a0,x126] w fun x127 w=>
 rF 209 x5 3 w fun x129=>
 rL 162 x129 w fun x130=>
 cL 159 [a0,x130] w fun x131 w=>
 rF 209 x5 4 w fun x132=>
 rL 162 x132 w fun x133=>
 rN 162 3 x133 w fun x134=>
 rB .gtr 3 T0 U0 x134 (iV 0) w fun x135=>
 BR x135
 (rD (Instr.build 77 #[(0,(iV 3))]) w fun x137=>
 cL 160 [a0,x137] w fun x138 w=>
 (fun w=>NIL a0 <|
 rF 169 a0 1 w fun x141=>
 rL 26 x141 w fun x142=>
 NIL a0 <|
 rF 169 a0 1 w fun x146=>
 rL 26 x146 w fun x147=>
 rN 26 3 x147 w fun x148=>
 rX 26 x142 x127 w fun x149=>
 rF 77 x149 3 w fun x150=>
 oS 3 x150 x148 w fun w=>
 rF 209 x5 4 w fun x152=>
 rL 162 x152 w fun x153=>
 cL 159 [a0,x153] w fun x154 w=>
 (fun w=>NIL a0 <|
 rF 169 a0 1 w fun x157=>
 rL 26 x157 w fun x158=>
 NIL a0 <|
 rF 169 a0 1 w fun x162=>
 rL 26 x162 w fun x163=>
 rN 26 3 x163 w fun x164=>
 rX 26 x158 x138 w fun x165=>
 rF 77 x165 3 w fun x166=>
 oS 3 x166 x164 w fun w=>
 rA (u1 4) (iV 1) w fun x14=>
 next1 [x14] w) (World.drew1 w)) (World.drew1 w))
 ((fun w=>NIL a0 <|
 rF 169 a0 1 w fun x169=>
 rL 26 x169 w fun x170=>
 NIL a0 <|
 rF 169 a0 1 w fun x174=>
 rL 26 x174 w fun x175=>
 rN 26 3 x175 w fun x176=>
 rX 26 x170 x127 w fun x177=>
 rF 77 x177 3 w fun x178=>
 oS 3 x178 x176 w fun w=>
 rA (u1 4) (iV 1) w fun x14=>
 next1 [x14] w) (World.drew1 w)))
 (rA (u1 4) (iV 1) w fun x14=>
 next1 [x14] w)))))))))
 (R (Value.tuple #[]) w)
def cfg159:Cfg:=⟨extL,[],[(1,766247770432944429179173513575154591809369561091801072,[4])],[(6,[0,1,2,3,4,5,6,7,9,10,8,11,12,13],2304),(8,[0,1,2,3,4,5,6,7,8,9],128),(10,[0,1,2,3,4,5,6,7,8,9],128),(12,[0,1,2,3,4,5,6,7,8,9,10],256),(14,[0,1,2,3,4,5,6,7,8,9,10],256),(21,[0,1,2,3,4,5,6,7,8,9,10,11,12],0),(27,[0,1,2,3,4,5,6,7,8,9,10,11,12],0),(29,[0,1,2,3,4,5,6,7,8,9,10,11,12],0),(30,[0,1,2,3,4,5,6,7,8,9,10,11,12],0)],[],[],[]⟩
theorem F159_call {a0 a1:Value} {w:World} {R:VW} (h:F159 a0 a1 w R):cL 159 [a0,a1] w R:=co (g:=cfg159) Tryz.func159 (by kernel_rfl) (by kernel_rfl) (by kernel_rfl) h
theorem zfb (G L P:List ByteArray) (x:DStmt) (a:Nat):emS G L P x a =
   if x.kind=1 then [⟨1,plc x.name G,x.term,0⟩]
   else if x.kind=4 then [⟨4,plc x.name P,term0,0⟩]
   else if x.kind=5 then [⟨5,plc x.name P,term0,0⟩]
   else if x.kind=6 then [⟨6,plc x.name L,term0,0⟩]
   else if x.kind=7 then [⟨7,plc x.name L,term0,0⟩]
   else if x.kind=8 then [⟨8,0,term0,0⟩]
   else if x.kind=3 then ⟨2,0,x.term,((a+1+(emL G L P x.body (a+1)).length+1:Nat):Int)⟩ :: (emL G L P x.body (a+1)++[⟨3,0,term0,(a:Int)⟩])
   else if x.kind=2 then
     (if x.els.length=0 then ⟨2,0,x.term,((a+1+(emL G L P x.body (a+1)).length:Nat):Int)⟩ :: emL G L P x.body (a+1)
     else ⟨2,0,x.term,((a+1+(emL G L P x.body (a+1)).length+1:Nat):Int)⟩ :: (emL G L P x.body (a+1) ++
       (⟨3,0,term0,((a+1+(emL G L P x.body (a+1)).length+1+(emL G L P x.els (a+1+(emL G L P x.body (a+1)).length+1)).length:Nat):Int)⟩ :: emL G L P x.els (a+1+(emL G L P x.body (a+1)).length+1))))
   else []:=by cases x;rw [emS];rfl
section
variable (G L P:List ByteArray)
mutual
theorem zqK:∀ (x:DStmt) (a:Nat),(emS G L P x a).length≤2*szS x
  | .mk k n t b e,a=>by
    have h1:=zhB b (a+1)
    have h2:=zhB e (a+1+(emL G L P b (a+1)).length+1)
    rw [emS,szS]
    repeat' split
    all_goals simp only [List.length_cons,List.length_nil,List.length_append];omega
theorem zhB:∀ (l:List DStmt) (a:Nat),(emL G L P l a).length≤2*szL l
  | [],a=>by rw [emL];simp
  | x :: l,a=>by
    have h1:=zqK x a
    have h2:=zhB l (a+(emS G L P x a).length)
    rw [emL,szL,List.length_append];omega
end
end
theorem ztK (x:DStmt):szS x=1+szL x.body+szL x.els:=by cases x;rw [szS];rfl
theorem zdl {g:Nat} {F F1:List Nat} {w w1 w2:World} (h:Chg (g :: F) w w1) (k:Chg (g :: F1) w1 w2) (hF:∀ c∈F1,c∈F∨w.heap.size≤c):Chg (g :: F) w w2:=
 ⟨k.os.trans h.os,k.tape.trans h.tape,k.output.trans h.output,Nat.le_trans h.size k.size,fun b hb hn=>(k.block b (Nat.lt_of_lt_of_le hb h.size) fun hm=>by
   simp only [List.mem_cons,not_or] at hn
   rcases List.mem_cons.1 hm with e | hm
   · exact hn.1 e
   rcases hF b hm with h | h
   · exact hn.2 h
   omega).trans (h.block b hb hn)⟩
theorem zuK {W w:World} {b:Nat} {x:DStmt} (h:AtB W w b 0 x):AtB W w b (0+6) x.body:=by
 obtain ⟨F,cs,hr,hc⟩:=h
 have h:AtB W w b 0 x.tup:=⟨F,cs,zef.1 hr,hc⟩
 exact h.snd.snd.snd.fst
theorem zuL {W w:World} {b:Nat} {x:DStmt} (h:AtB W w b 0 x):AtB W w b (0+7) x.els:=by
 obtain ⟨F,cs,hr,hc⟩:=h
 have h:AtB W w b 0 x.tup:=⟨F,cs,zef.1 hr,hc⟩
 exact h.snd.snd.snd.snd
theorem zol {W:World} {v:Value} {p:DProg} (h:Is W v p):p.procs.length≤9223372036854775807:=by
 obtain ⟨F,cs,hr,hv⟩:=h
 obtain ⟨F1,F2,x1,x2,rfl,hx,h1,F3,F4,x3,x4,rfl,hx2,h2,h3⟩:=hr
 obtain ⟨a,cap,Fi,xs,_,q1,q2,_⟩:=h3
 have q1:p.procs.length≤cap:=q1
 rw [zap] at q2
 omega
def znh (pr:List ByteArray) (n:Nat) (l:List DStmt):Prop:=∀ {W w:World} {g:Nat} {p:DProg} {L:List DIns} {F:List Nat} {v:Value},EmF W g p L F w→Is W v l→(∀ x∈l,StR pr n x)→L.length+2*szL l≤1000000 →
 CALL Tryz.prog 159 [.pointer (some ⟨g,0,none⟩),v] w fun r w'=>Chg (g :: F) w w'∧∃ F',EmF W g p (L++emL p.globals p.locks (p.procs.map DProc.name) l L.length) F' w'∧∀ c∈F',c∈F∨w.heap.size≤c
def zvu (W w:World) (g:Nat) (p:DProg) (L:List DIns) (F:List Nat) (l:List DStmt) (k:Nat) (us:List Value) (w':World):Prop:=
 us=[.int .i64 (k:Int)]∧∃ L1 F1,k≤l.length∧L++emL p.globals p.locks (p.procs.map DProc.name) l L.length=L1++emL p.globals p.locks (p.procs.map DProc.name) (l.drop k) L1.length∧L1.length+2*szL (l.drop k)≤1000000 ∧
   Chg (g :: F) w w'∧EmF W g p L1 F1 w'∧∀ c∈F1,c∈F∨w.heap.size≤c
theorem zgX {pr:List ByteArray} {n:Nat} {l:List DStmt} (ih:∀ m l,m+1=n→znh pr m l) (inil:∀ m,znh pr m []):znh pr n l:=by
 intro W w g p L F v hE h hs hlen
 have hln:=zan h
 obtain ⟨-,e2,e3,e4,e5⟩:=hE.lt
 have e1:=hE.lt.1
 refine F159_call ?_
 unfold F159
 refine zas l.length (zvu W w g p L F l) 0 (Nat.zero_le _) ⟨rfl,L,F,Nat.zero_le _,by simp,by simpa using hlen,Chg.refl _ _,hE,fun c hc=>.inl hc⟩ ?_
 rintro k m u w1 hkm ⟨hu,L1,F1,hkl,heq,hlen1,hc1,hE1,hF1⟩
 simp only [List.map_cons,List.map_nil,List.cons.injEq,and_true] at hu
 rw [hu]
 have hsz1:=hc1.size
 refine zag zeE h ?_
 refine zah ?_
 refine br (fun hlt=>?_) (fun hge=>?_)
 rotate_left
 · have hk:k=l.length:=by omega
   subst hk
   rw [List.drop_length,emL,List.append_nil] at heq
   rw [heq]
   exact ⟨hc1,F1,hE1,hF1⟩
 have hk:k<l.length:=by omega
 obtain ⟨x,hx⟩:∃ x,x=l[k]:=⟨_,rfl⟩
 have hxs:StR pr n x:=by rw [hx];exact hs _ (List.getElem_mem hk)
 have hdr:l.drop k=x :: l.drop (k+1):=by rw [hx];exact List.drop_eq_getElem_cons hk
 rw [hdr,emL] at heq
 rw [hdr,szL] at hlen1
 have hel:=zqK p.globals p.locks (p.procs.map DProc.name) x L1.length
 have hszx:=ztK x
 have hfin:∀ w' F2,Chg (g :: F) w w'→EmF W g p (L1++emS p.globals p.locks (p.procs.map DProc.name) x L1.length) F2 w'→(∀ c∈F2,c∈F∨w.heap.size≤c) →
     ∃ m',m'<m∧∃ k',k'+m'=l.length∧zvu W w g p L F l k' [.int .i64 ((k+1:Nat):Int)] w':=fun w' F2 hc hE hF=>
   ⟨m-1,by omega,k+1,by omega,rfl,_,F2,by omega,by rw [heq,List.length_append,List.append_assoc],by rw [List.length_append];omega,hc,hE,hF⟩
 obtain ⟨f1,f2,f3,f4,f5⟩:=hE1.lt
 have hW1:=hE1.old
 refine zad zeE zbC h hk fun b17 o17 hA17=>?_
 rw [←hx] at hA17
 refine zab zbC hA17 hW1 fun v18 h18=>?_
 refine zce zqe rfl zbC rfl h18 hW1 fun w2 hx2 hA5 hV5=>?_
 have hs2:=hx2.size
 have hg5:=hV5.lt
 have hE2:=hE1.ext hx2
 have hB5:=zgl h18 hV5 rfl
 have hc2:Chg (g :: F) w w2:=hc1.trans (hx2.chg _)
 have hkind:(x.kind=1∨x.kind=2∨x.kind=3)→TmR x.term:=fun hq=>by
   have h0:St0 pr x→TmR x.term:=fun q=>by
     rcases q with q | q | q | q
     · exact q.2.2.1
     · have:=q.1;omega
     · have:=q.1;omega
     have:=q.1;omega
   cases n with
   | zero=>exact h0 hxs.zero
   | succ n=>
     rcases hxs.succ with q | ⟨_,_,h3,_⟩
     · exact h0 q
     exact h3
 have hkid:∃ q,(∀ y∈x.body,StR pr q y)∧(∀ y∈x.els,StR pr q y)∧znh pr q x.body∧znh pr q x.els:=by
   have h0:St0 pr x→x.body=[]∧x.els=[]:=fun h=>by rcases h with q | q | q | q<;>exact ⟨q.2.2.2.1,q.2.2.2.2⟩
   cases n with
   | zero=>
     obtain ⟨h1,h2⟩:=h0 hxs.zero
     rw [h1,h2]
     exact ⟨0,by simp,by simp,inil 0,inil 0⟩
   | succ n=>
     rcases hxs.succ with q | ⟨_,_,_,h4,h5⟩
     · obtain ⟨h1,h2⟩:=h0 q
       rw [h1,h2]
       exact ⟨0,by simp,by simp,inil 0,inil 0⟩
     exact ⟨n,h4,h5,ih n _ rfl,ih n _ rfl⟩
 obtain ⟨q,hqb,hqe,ihb,ihe⟩:=hkid
 have hat2:=hB5.at hE2.old
 refine zaa zes ?_
 refine zac ty3 (zb8 hat2) (Ext.refl _) fun hI20=>?_
 -- an instruction of one's own behind what there is
 have hput:∀ {w3:World} {lo hi:Nat} {u:Value} {y:DIns} {K:Value→World→Prop},Ext w2 w3→OwnI lo hi w3 u y→w1.heap.size≤lo→lo≤w3.heap.size →
     (∀ w4 F4,Chg (g :: F) w w4→EmF W g p (L1++[y]) F4 w4→(∀ c∈F4,c∈F1∨w1.heap.size≤c)→AtB W w4 w1.heap.size 0 x→w1.heap.size<w4.heap.size→w1.heap.size∉F4∨lo≤w1.heap.size→K (.int .i64 (L1.length:Int)) w4)→CALL Tryz.prog 160 [.pointer (some ⟨g,0,none⟩),u] w3 K:=by
   intro w3 lo hi u y K hx3 ho h1 h2 hK
   have hs3:=hx3.size
   refine (zgW (hE2.ext hx3) ho (by omega) (fun c hc=>by have:=f2 c hc;omega) h2 (by omega)).mono ?_
   rintro _ w4 ⟨rfl,hc4,F4,hE4,hF4⟩
   have hs4:=hc4.size
   refine hK w4 F4 (zdl (hc2.trans (hx3.chg _)) hc4 hF1) hE4 (fun c hc=>(hF4 c hc).imp id fun h=>by omega) ((hB5.ext hx3).keep (hc4.block _ (by omega) fun hm=>?_)) (by omega) ?_
   · rcases List.mem_cons.1 hm with e | hm
     · omega
     have:=f2 _ hm;omega
   rcases Nat.lt_or_ge w1.heap.size lo with hl | hl
   · refine .inl fun hm=>?_
     rcases hF4 _ hm with h | h
     · have:=f2 _ h;omega
     omega
   exact .inr hl
 refine zai ?_
 refine br (fun k1=>?_) (fun k1=>?_)
 · have hx3:=zaj w2
   have hE3:=hE2.ext hx3
   refine NIL.mk rfl ?_
   refine zuJ hE3 fun v28 h28=>?_
   refine zaa zcq ?_
   refine zav ty9 (zbd hat2) hx3 fun hS=>?_
   refine zaa zfz ?_
   refine zab zc5 (zcM hat2) hx3 fun v33 h33=>?_
   refine (zbL h28 hE3.old).mono ?_
   rintro _ w4 ⟨hx4,rfl⟩
   refine ⟨hx4,?_⟩
   have hw24:=(hkind (.inl k1)).2.2
   refine (zhz _ h33 (hx3.trans hx4) (by omega)).mono ?_
   rintro v34 w5 ⟨hx5,o34⟩
   have o34:=o34.toI
   have hs3:=hx3.size
   have hs4:=hx4.size
   have hs5:=hx5.size
   refine ⟨hx5,?_⟩
   have hpl:=ziP (s:=x.name) (l:=p.globals)
   have hpl2:=zan h28
   refine zng (by unfold I64;omega) (by unfold I64;omega) o34 fun v35 o35=>?_
   refine hput (hx3.trans (hx4.trans hx5)) o35 (by omega) (by omega) fun w6 F6 hc6 hE6 hF6 _ _ _=>?_
   refine zaf (by omega) ?_
   refine hfin w6 F6 hc6 ?_ fun c hc=>(hF6 c hc).elim (hF1 c) fun h=>.inr (by omega)
   rw [zfb,if_pos k1];exact hE6
 refine zai ?_
 refine br (fun k4=>?_) (fun k4=>?_)
 · have hx3:=zaj w2
   have hE3:=hE2.ext hx3
   have hs3:=hx3.size
   refine NIL.mk rfl ?_
   refine zsW hE3 fun v28 h28=>?_
   refine zaa zcq ?_
   refine zav ty9 (zbd hat2) hx3 fun hS=>?_
   refine (zjb h28 hE3.old).mono ?_
   rintro _ w4 ⟨hx4,rfl⟩
   have hs4:=hx4.size
   refine ⟨hx4,?_⟩
   have hpl:=ziP (s:=x.name) (l:=p.procs.map DProc.name)
   have hpl2:p.procs.length≤9223372036854775807:=zol h28
   rw [List.length_map] at hpl
   refine zfY (lo:=w4.heap.size) (hi:=w4.heap.size) (by unfold I64;omega) (by unfold I64;omega) fun v35 o35=>?_
   refine hput (hx3.trans hx4) o35 (by omega) (by omega) fun w6 F6 hc6 hE6 hF6 _ _ _=>?_
   refine zaf (by omega) ?_
   refine hfin w6 F6 hc6 ?_ fun c hc=>(hF6 c hc).elim (hF1 c) fun h=>.inr (by omega)
   rw [zfb,if_neg k1,if_pos k4];exact hE6
 refine zai ?_
 refine br (fun k5=>?_) (fun k5=>?_)
 · have hx3:=zaj w2
   have hE3:=hE2.ext hx3
   have hs3:=hx3.size
   refine NIL.mk rfl ?_
   refine zsW hE3 fun v28 h28=>?_
   refine zaa zcq ?_
   refine zav ty9 (zbd hat2) hx3 fun hS=>?_
   refine (zjb h28 hE3.old).mono ?_
   rintro _ w4 ⟨hx4,rfl⟩
   have hs4:=hx4.size
   refine ⟨hx4,?_⟩
   have hpl:=ziP (s:=x.name) (l:=p.procs.map DProc.name)
   have hpl2:p.procs.length≤9223372036854775807:=zol h28
   rw [List.length_map] at hpl
   refine zfY (lo:=w4.heap.size) (hi:=w4.heap.size) (by unfold I64;omega) (by unfold I64;omega) fun v35 o35=>?_
   refine hput (hx3.trans hx4) o35 (by omega) (by omega) fun w6 F6 hc6 hE6 hF6 _ _ _=>?_
   refine zaf (by omega) ?_
   refine hfin w6 F6 hc6 ?_ fun c hc=>(hF6 c hc).elim (hF1 c) fun h=>.inr (by omega)
   rw [zfb,if_neg k1,if_neg k4,if_pos k5];exact hE6
 refine zai ?_
 refine br (fun k6=>?_) (fun k6=>?_)
 · have hx3:=zaj w2
   have hE3:=hE2.ext hx3
   have hs3:=hx3.size
   refine NIL.mk rfl ?_
   refine zsV hE3 fun v28 h28=>?_
   refine zaa zcq ?_
   refine zav ty9 (zbd hat2) hx3 fun hS=>?_
   refine (zbL h28 hE3.old).mono ?_
   rintro _ w4 ⟨hx4,rfl⟩
   have hs4:=hx4.size
   refine ⟨hx4,?_⟩
   have hpl:=ziP (s:=x.name) (l:=p.locks)
   have hpl2:=zan h28
   refine zfY (lo:=w4.heap.size) (hi:=w4.heap.size) (by unfold I64;omega) (by unfold I64;omega) fun v35 o35=>?_
   refine hput (hx3.trans hx4) o35 (by omega) (by omega) fun w6 F6 hc6 hE6 hF6 _ _ _=>?_
   refine zaf (by omega) ?_
   refine hfin w6 F6 hc6 ?_ fun c hc=>(hF6 c hc).elim (hF1 c) fun h=>.inr (by omega)
   rw [zfb,if_neg k1,if_neg k4,if_neg k5,if_pos k6];exact hE6
 refine zai ?_
 refine br (fun k7=>?_) (fun k7=>?_)
 · have hx3:=zaj w2
   have hE3:=hE2.ext hx3
   have hs3:=hx3.size
   refine NIL.mk rfl ?_
   refine zsV hE3 fun v28 h28=>?_
   refine zaa zcq ?_
   refine zav ty9 (zbd hat2) hx3 fun hS=>?_
   refine (zbL h28 hE3.old).mono ?_
   rintro _ w4 ⟨hx4,rfl⟩
   have hs4:=hx4.size
   refine ⟨hx4,?_⟩
   have hpl:=ziP (s:=x.name) (l:=p.locks)
   have hpl2:=zan h28
   refine zfY (lo:=w4.heap.size) (hi:=w4.heap.size) (by unfold I64;omega) (by unfold I64;omega) fun v35 o35=>?_
   refine hput (hx3.trans hx4) o35 (by omega) (by omega) fun w6 F6 hc6 hE6 hF6 _ _ _=>?_
   refine zaf (by omega) ?_
   refine hfin w6 F6 hc6 ?_ fun c hc=>(hF6 c hc).elim (hF1 c) fun h=>.inr (by omega)
   rw [zfb,if_neg k1,if_neg k4,if_neg k5,if_neg k6,if_pos k7];exact hE6
 refine zai ?_
 refine br (fun k8=>?_) (fun k8=>?_)
 · refine zje (lo:=w2.heap.size) (hi:=w2.heap.size) (by unfold I64;omega) fun v35 o35=>?_
   refine hput (Ext.refl w2) o35 (by omega) (by omega) fun w6 F6 hc6 hE6 hF6 _ _ _=>?_
   refine zaf (by omega) ?_
   refine hfin w6 F6 hc6 ?_ fun c hc=>(hF6 c hc).elim (hF1 c) fun h=>.inr (by omega)
   rw [zfb,if_neg k1,if_neg k4,if_neg k5,if_neg k6,if_neg k7,if_pos k8];exact hE6
 have hlb:=zhB p.globals p.locks (p.procs.map DProc.name) x.body (L1.length+1)
 refine zai ?_
 refine br (fun k3=>?_) (fun k3=>?_)
 · refine zaa zfz ?_
   refine zab zc5 (zcM hat2) (Ext.refl _) fun v96 h96=>?_
   have hw24:=(hkind (.inr (.inr k3))).2.2
   refine (zhz _ h96 (Ext.refl _) (by omega)).mono ?_
   rintro v97 w4 ⟨hx4,o97⟩
   have o97:=o97.toI
   have hs4:=hx4.size
   refine zj3 (by unfold I64;omega) o97 fun v98 o98=>?_
   refine hput hx4 o98 (by omega) (by omega) fun w5 F5 hc5 hE5 hF5 hB5' hg5' _=>?_
   refine zaa zdB ?_
   refine zd0 zcY (zuK hB5') hE5.old (Ext.refl _) fun v102 h102=>?_
   refine (ihb hE5 h102 hqb (by simp;omega)).mono ?_
   rintro r103 w6 ⟨hc6,F6,hE6,hF6⟩
   have hs5:=hc5.size
   have hs6:=hc6.size
   obtain ⟨z1,z2,z3,z4,z5⟩:=hE6.lt
   refine zpi (lo:=w6.heap.size) (hi:=w6.heap.size) (by unfold I64;omega) (by unfold I64;omega) fun v106 o106=>?_
   refine (zgW hE6 o106 z1 z2 (Nat.le_refl _) (by simp;omega)).mono ?_
   rintro r107 w7 ⟨-,hc7,F7,hE7,hF7⟩
   have hs7:=hc7.size
   have hx8:=zaj w7
   have e7:L1++[(⟨2,0,x.term,0⟩:DIns)]++emL p.globals p.locks (p.procs.map DProc.name) x.body (L1++[(⟨2,0,x.term,0⟩:DIns)]).length++[⟨3,0,term0,(L1.length:Int)⟩] =
       L1++(⟨2,0,x.term,0⟩:DIns) :: (emL p.globals p.locks (p.procs.map DProc.name) x.body (L1.length+1)++[⟨3,0,term0,(L1.length:Int)⟩]):=by simp
   rw [e7] at hE7
   have hF6':∀ c∈F6,c∈F∨w.heap.size≤c:=fun c hc=>(hF6 c hc).elim (fun h=>(hF5 c h).elim (hF1 c) fun h=>.inr (by omega)) fun h=>.inr (by omega)
   have hF7':∀ c∈F7,c∈F∨w.heap.size≤c:=fun c hc=>(hF7 c hc).elim (hF6' c) fun h=>.inr (by omega)
   have hc07:=zdl (zdl hc5 hc6 fun c hc=>(hF5 c hc).elim (hF1 c) fun h=>.inr (by omega)) hc7 hF6'
   refine zij (hE7.ext hx8) rfl (by simp;omega) fun w9 F9 hc9 hE9 hF9=>?_
   refine zaf (by omega) ?_
   refine hfin w9 F9 (zdl (hc07.trans (hx8.chg _)) hc9 hF7') ?_ fun c hc=>hF7' c (hF9 c hc)
   rw [zfb,if_neg k1,if_neg k4,if_neg k5,if_neg k6,if_neg k7,if_neg k8,if_pos k3]
   have:((L1++(⟨2,0,x.term,0⟩:DIns) :: (emL p.globals p.locks (p.procs.map DProc.name) x.body (L1.length+1)++[⟨3,0,term0,(L1.length:Int)⟩])).length:Int)=((L1.length+1+(emL p.globals p.locks (p.procs.map DProc.name) x.body (L1.length+1)).length+1:Nat):Int):=by
     simp only [List.length_append,List.length_cons,List.length_nil];omega
   rw [this] at hE9
   exact hE9
 refine zai ?_
 refine br (fun k2=>?_) (fun k2=>?_)
 rotate_left
 · exfalso
   have h0:St0 pr x→False:=fun q=>by rcases q with q | q | q | q<;>(have:=q.1;omega)
   cases n with
   | zero=>exact h0 hxs.zero
   | succ n=>
     rcases hxs.succ with q | ⟨q,_⟩
     · exact h0 q
     omega
 refine zaa zfz ?_
 refine zab zc5 (zcM hat2) (Ext.refl _) fun v124 h124=>?_
 have hw24:=(hkind (.inr (.inl k2))).2.2
 refine (zhz _ h124 (Ext.refl _) (by omega)).mono ?_
 rintro v125 w4 ⟨hx4,o125⟩
 have o125:=o125.toI
 have hs4:=hx4.size
 refine zj3 (by unfold I64;omega) o125 fun v126 o126=>?_
 refine hput hx4 o126 (by omega) (by omega) fun w5 F5 hc5 hE5 hF5 hB5' hg5' hgF5=>?_
 have hgF5:w1.heap.size∉F5:=hgF5.elim id fun h=>by omega
 have hs5:=hc5.size
 refine zaa zdB ?_
 refine zd0 zcY (zuK hB5') hE5.old (Ext.refl _) fun v130 h130=>?_
 refine (ihb hE5 h130 hqb (by simp;omega)).mono ?_
 rintro r131 w6 ⟨hc6,F6,hE6,hF6⟩
 have hs6:=hc6.size
 have hB6:=hB5'.keep (hc6.block _ hg5' fun hm=>by
   rcases List.mem_cons.1 hm with e | hm
   · omega
   exact hgF5 hm)
 obtain ⟨z1,z2,z3,z4,z5⟩:=hE6.lt
 have hF5':∀ c∈F5,c∈F∨w.heap.size≤c:=fun c hc=>(hF5 c hc).elim (hF1 c) fun h=>.inr (by omega)
 have hF6':∀ c∈F6,c∈F∨w.heap.size≤c:=fun c hc=>(hF6 c hc).elim (hF5' c) fun h=>.inr (by omega)
 have hc06:=zdl hc5 hc6 hF5'
 have e6:L1++[(⟨2,0,x.term,0⟩:DIns)]++emL p.globals p.locks (p.procs.map DProc.name) x.body (L1++[(⟨2,0,x.term,0⟩:DIns)]).length =
     L1++(⟨2,0,x.term,0⟩:DIns) :: emL p.globals p.locks (p.procs.map DProc.name) x.body (L1.length+1):=by simp
 rw [e6] at hE6
 obtain ⟨B,hB⟩:∃ B,B=emL p.globals p.locks (p.procs.map DProc.name) x.body (L1.length+1):=⟨_,rfl⟩
 rw [←hB] at hE6 hlb
 refine zaa zcZ ?_
 refine zd0 zcY (zuL hB6) hE6.old (Ext.refl _) fun v133 h133=>?_
 refine zag zeE h133 ?_
 refine zc8 ?_
 refine br (fun ke=>?_) (fun ke=>?_)
 · refine zje (lo:=w6.heap.size) (hi:=w6.heap.size) (by unfold I64;omega) fun v137 o137=>?_
   refine (zgW hE6 o137 z1 z2 (Nat.le_refl _) (by simp;omega)).mono ?_
   rintro r138 w7 ⟨h138,hc7,F7,hE7,hF7⟩
   rw [h138]
   have hs7:=hc7.size
   have hx8:=zaj w7
   have hs8:=hx8.size
   have e7:L1++(⟨2,0,x.term,0⟩:DIns) :: B++[⟨3,0,term0,0⟩]=L1++(⟨2,0,x.term,0⟩:DIns) :: (B++[⟨3,0,term0,0⟩]):=by simp
   rw [e7] at hE7
   have hF7':∀ c∈F7,c∈F∨w.heap.size≤c:=fun c hc=>(hF7 c hc).elim (hF6' c) fun h=>.inr (by omega)
   have hc07:=zdl hc06 hc7 hF6'
   have hgF6:w1.heap.size∉F6:=fun hm=>(hF6 _ hm).elim hgF5 fun h=>by omega
   have hgF7:w1.heap.size∉F7:=fun hm=>(hF7 _ hm).elim hgF6 fun h=>by omega
   have hB7:=hB6.keep (hc7.block _ (by omega) fun hm=>by
     rcases List.mem_cons.1 hm with e | hm
     · omega
     exact hgF6 hm)
   refine zij (hE7.ext hx8) rfl (by simp;omega) fun w9 F9 hc9 hE9 hF9=>?_
   have hs9:=hc9.size
   have hB9:=(hB7.ext hx8).keep (hc9.block _ (by omega) fun hm=>by
     rcases List.mem_cons.1 hm with e | hm
     · omega
     exact hgF7 hm)
   refine zaa zcZ ?_
   refine zd0 zcY (zuL hB9) hE9.old (Ext.refl _) fun v153 h153=>?_
   obtain ⟨y0,hy0⟩:∃ y0:DIns,y0=⟨2,0,x.term,((L1++(⟨2,0,x.term,0⟩:DIns) :: (B++[⟨3,0,term0,0⟩])).length:Int)⟩:=⟨_,rfl⟩
   have hE9:EmF W g p (L1++y0 :: (B++[⟨3,0,term0,0⟩])) F9 w9:=by rw [hy0];exact hE9
   refine (ihe hE9 h153 hqe (by simp;omega)).mono ?_
   rintro r154 w10 ⟨hc10,F10,hE10,hF10⟩
   have hF9':∀ c∈F9,c∈F∨w.heap.size≤c:=fun c hc=>hF7' c (hF9 c hc)
   have hF10':∀ c∈F10,c∈F∨w.heap.size≤c:=fun c hc=>(hF10 c hc).elim (hF9' c) fun h=>.inr (by omega)
   have hc010:=zdl (zdl (hc07.trans (hx8.chg _)) hc9 hF7') hc10 hF9'
   have hx11:=zaj w10
   have hle:=zhB p.globals p.locks (p.procs.map DProc.name) x.els (L1++y0 :: (B++[⟨3,0,term0,0⟩])).length
   have hn9:(L1++y0 :: (B++[(⟨3,0,term0,0⟩:DIns)])).length=L1.length+1+B.length+1:=by simp only [List.length_append,List.length_cons,List.length_nil];omega
   rw [hn9] at hE10 hle
   obtain ⟨E,hEe⟩:∃ E,E=emL p.globals p.locks (p.procs.map DProc.name) x.els (L1.length+1+B.length+1):=⟨_,rfl⟩
   rw [←hEe] at hE10 hle
   have e10:L1++y0 :: (B++[(⟨3,0,term0,0⟩:DIns)])++E=(L1++y0 :: B)++(⟨3,0,term0,0⟩:DIns) :: E:=by simp
   rw [e10] at hE10
   refine zij (hE10.ext hx11) (by simp) (by simp only [List.length_append,List.length_cons];omega) fun w12 F12 hc12 hE12 hF12=>?_
   refine zaf (by omega) ?_
   refine hfin w12 F12 (zdl (hc010.trans (hx11.chg _)) hc12 hF10') ?_ fun c hc=>hF10' c (hF12 c hc)
   rw [zfb,if_neg k1,if_neg k4,if_neg k5,if_neg k6,if_neg k7,if_neg k8,if_neg k3,if_pos k2,if_neg (by omega),←hB,←hEe]
   have q1:y0=⟨2,0,x.term,((L1.length+1+B.length+1:Nat):Int)⟩:=by
     rw [hy0];congr 1
     simp only [List.length_append,List.length_cons,List.length_nil];omega
   have q2:(((L1++y0 :: B)++(⟨3,0,term0,0⟩:DIns) :: E).length:Int)=((L1.length+1+B.length+1+E.length:Nat):Int):=by
     simp only [List.length_append,List.length_cons,List.length_nil];omega
   rw [q2,q1] at hE12
   simpa using hE12
 have hx8:=zaj w6
 refine zij (hE6.ext hx8) rfl (by simp;omega) fun w9 F9 hc9 hE9 hF9=>?_
 refine zaf (by omega) ?_
 refine hfin w9 F9 (zdl (hc06.trans (hx8.chg _)) hc9 hF6') ?_ fun c hc=>hF6' c (hF9 c hc)
 rw [zfb,if_neg k1,if_neg k4,if_neg k5,if_neg k6,if_neg k7,if_neg k8,if_neg k3,if_pos k2,if_pos (by omega),←hB]
 have:((L1++(⟨2,0,x.term,0⟩:DIns) :: B).length:Int)=((L1.length+1+B.length:Nat):Int):=by
   simp only [List.length_append,List.length_cons,List.length_nil];omega
 rw [this] at hE9
 exact hE9
theorem zh3 (pr:List ByteArray) (n:Nat):znh pr n []:=by
 intro W w g p L F v hE h hs hlen
 refine F159_call ?_
 unfold F159
 refine zas 0 (fun k us w'=>us=[.int .i64 (k:Int)]∧w'=w) 0 (Nat.zero_le _) ⟨rfl,rfl⟩ ?_
 rintro k m u w1 hkm ⟨hu,rfl⟩
 simp only [List.map_cons,List.map_nil,List.cons.injEq,and_true] at hu
 rw [hu]
 refine zag zeE h ?_
 refine zah ?_
 refine br (fun hlt=>by simp at hlt;omega) (fun hge=>?_)
 exact ⟨Chg.refl _ _,F,by rw [emL,List.append_nil];exact hE,fun c hc=>.inl hc⟩
theorem zjf (pr:List ByteArray):∀ (n:Nat) (l:List DStmt),znh pr n l
 | 0,l=>zgX (n:=0) (l:=l) (fun m l h=>absurd h (by omega)) (zh3 pr)
 | n + 1, l => zgX (n := n + 1) (l := l) (fun m l h => by
     obtain rfl:m=n:=by omega
     exact zjf pr m l) (zh3 pr)
def F129 (a0:Value) (w:World) (R:VW):Prop:=
 oP (Instr.alloc 112 true (.tuple #[])) w fun x2 w=>
 oP (Instr.buildSlice 24 4 #[(0,(Value.string (ByteArray.mk #[120]))),(1,(Value.string (ByteArray.mk #[121]))),(2,(Value.string (ByteArray.mk #[122]))),(3,(Value.string (ByteArray.mk #[117])))]) w fun x7 w=>
 oP (Instr.buildSlice 24 3 #[(0,(Value.string (ByteArray.mk #[97]))),(1,(Value.string (ByteArray.mk #[98]))),(2,(Value.string (ByteArray.mk #[109])))]) w fun x8 w=>
 rD (Instr.build 112 #[(0,x7),(1,x8)]) w fun x9=>
 oP (Instr.alloc 112 true (.tuple #[])) w fun x3 w=>
 oS 112 x3 x9 w fun w=>
 oP (Instr.buildSlice 24 4 #[(0,(Value.string (ByteArray.mk #[109,97,105,110]))),(1,(Value.string (ByteArray.mk #[112]))),(2,(Value.string (ByteArray.mk #[113]))),(3,(Value.string (ByteArray.mk #[114])))]) w fun x10 w=>
 cL 71 [a0,(iV 3)] w fun x12 w=>
 rB .add 3 U0 T0 (iV 2) x12 w fun x13=>
 rD (Instr.sliceAt 24 x10 none (some x13) none) w fun x14=>
 LOOPI [5] [(iV 0)] w fun u4 w next4=>
 rN 24 3 x14 w fun x17=>
 rC (u4 5) x17 w fun x18=>
 BR x18
 (cL 198 [a0,(iV 2)] w fun x22 w=>
 cL 198 [a0,(iV 1)] w fun x24 w=>
 oP (Builtin.append_ #[162,162] 162 [x22,x24].toArray) w fun x25 w=>
 JOIN [6] (fun J9=>
 cL 199 [x25,(iV 50)] w fun x27 w=>
 rB .lss 3 T0 U0 x27 (iV 0) w fun x28=>
 BR x28
 (rD (Instr.build 209 #[(0,(iV 8))]) w fun x29=>
 oP (Instr.buildSlice 162 1 #[(0,x29)]) w fun x30 w=>
 J9 [x30] w)
 (J9 [x25] w)) (fun u9 w=>
 JOIN [6] (fun J11=>
 cL 92 [a0,(iV 2)] w fun x32 w=>
 BR x32
 (cL 200 [a0,(u9 6)] w fun x35 w=>
 J11 [x35] w)
 (J11 [(u9 6)] w)) (fun u11 w=>
 JOIN [6] (fun J13=>
 rB .eql 3 T0 U0 (u4 5) (iV 0) w fun x37=>
 BR x37
 (cL 92 [a0,(iV 2)] w fun x40 w=>
 BR x40
 (rX 24 x14 (iV 1) w fun x43=>
 rL 9 x43 w fun x44=>
 rD (Instr.build 209 #[(0,(iV 5)),(1,x44)]) w fun x45=>
 oP (Instr.buildSlice 162 1 #[(0,x45)]) w fun x46 w=>
 oP (Builtin.append_ #[162,162] 162 [x46,(u11 6)].toArray) w fun x48 w=>
 J13 [x48] w)
 (J13 [(u11 6)] w))
 (J13 [(u11 6)] w)) (fun u13 w=>
 (fun w=>XR fun X=>RDX tp X (Instr.fieldAt 112 x3 2) w fun x49=>
 RDX tp X (Instr.loadAt 110 x49) w fun x50=>
 RDX tp X (Instr.indexAt 24 x14 (u4 5)) w fun x53=>
 RDX tp X (Instr.loadAt 9 x53) w fun x54=>
 RDX tp X (Instr.sliceAt 24 x14 (some (iV 1)) none none) w fun x58=>
 (fun w_=>cL 201 [a0,(u13 6),x58] w_ fun x59 w=>
 ExtX X w_ w ∧
 RDX tp X (Instr.build 164 #[(0,x54),(1,x59)]) w fun x60=>
 (fun w_=>oP (Instr.buildSlice 110 1 #[(0,x60)]) w_ fun x61 w=>
 ExtX X w_ w ∧
 (oP (Builtin.append_ #[110,110] 110 [x50,x61].toArray) w fun x62 w=>
 RDX tp X (Instr.fieldAt 112 x3 2) w fun x63=>
 oS 110 x63 x62 w fun w=>
 rA (u4 5) (iV 1) w fun x20=>
 next4 [x20] w)) w) w) (World.drew1 w)))))
 (rL 112 x3 w fun x64=>
 oS 112 x2 x64 w fun w=>
 rD (za9 112 x2) w fun r2=>R r2 w)
def cfg129:Cfg:={ ext:=extL,joins:=[(9,2080374848,[6]),(11,66571993152,[6]),(13,562881233944640,[6])],loops:=[(4,18446744073709518944,[5])],draws:=[(13,[0,1,2,3,4,5,6,7,8,9,10,11,12,13,14,15],5120)],pars:=[],xs:=[13] }
theorem F129_call {a0:Value} {w:World} {R:VW} (h:F129 a0 w R):cL 129 [a0] w R:=co (g:=cfg129) Tryz.func129 (by kernel_rfl) (by kernel_rfl) (by kernel_rfl) h
theorem zpj {w:World} {n:ByteArray} {a:Option Addr} {m c:Nat}:(Instr.build 164 #[(0,.string n),(1,.slice a m c)]).run Tryz.prog w=.ok (.agg #[.string n,.slice a m c]) w:=by
 obtain ⟨v,h1,h2⟩:=zaS (P:=Tryz.prog) (w:=w) (K:=fun v=>v=.agg #[.string n,.slice a m c]) (t:=164) (parts:=#[(0,.string n),(1,.slice a m c)]) (cells:=#[.string n,.slice a m c]) (by kernel_rfl) rfl
 subst h2;exact h1 w (Ext.refl w)
theorem zsg {X:Nat→Prop} {w:World} {lo hi n cap i:Nat} {a:Option Addr} {l:List ByteArray} {K:Value→Prop} (h:IsK lo hi w (.slice a n cap) l) (hn:n=l.length) (hil:i<l.length) (hX:∀ b,lo≤b→b<hi→¬X b)
   (k:l[i].size≤maxLen→K (.string l[i])):∃ p,(∀ w':World,(Instr.indexAt 24 (.slice a n cap) (.int .i64 (i:Int))).run Tryz.prog w'=.ok p w')∧RDX Tryz.prog X (Instr.loadAt 9 p) w K:=by
 subst hn
 obtain ⟨F,cs,⟨a',cap',Fi,xs,rfl,h1,h2,hc,h4⟩,hv⟩:=h.is
 simp only [mkv,Rep.agg,cond_false,List.headD_cons,Value.slice.injEq] at hv
 obtain ⟨rfl,_,rfl⟩:=hv
 rcases h4 with ⟨rfl,_⟩ | ⟨b,o,rfl,rfl,hr,hb⟩
 · simp at hil
 refine ⟨.pointer (some ⟨b,o+i*1,none⟩),fun w'=>by rw [zcm u24 ty9 (by omega) (by omega)];simp,?_⟩
 have key:∀ w':World,Is w' (.slice (some ⟨b,o,none⟩) l.length cap) l→w'.cell? ⟨b,o+i*1,none⟩=some (.string l[i])∧l[i].size≤maxLen:=by
   intro w' hw
   obtain ⟨F,cs,⟨a',cap',Fi,xs,rfl,h1,h2,hc,h4⟩,hv⟩:=hw
   simp only [mkv,Rep.agg,cond_false,List.headD_cons,Value.slice.injEq] at hv
   obtain ⟨rfl,_,rfl⟩:=hv
   rcases h4 with ⟨rfl,_⟩ | ⟨b2,o2,hbo,rfl,hr,hb⟩
   · simp at hil
   simp only [Option.some.injEq,Addr.mk.injEq,and_true] at hbo
   obtain ⟨rfl,rfl⟩:=hbo
   have e:l=l.take i++(l[i] :: l.drop (i+1)):=by simp
   rw [e] at hc
   obtain ⟨F1,F2,x1,x2,rfl,rfl,c1,c2⟩:=Cells.split hc
   obtain ⟨G,F3,cg,x3,rfl,rfl,⟨_,rfl,hs⟩,_⟩:=c2
   have hx1:x1.length=i:=by rw [Cells.len c1,List.length_take,Nat.min_eq_left (by omega)];exact Nat.mul_one i
   refine ⟨?_,hs⟩
   have:=hr i (.string l[i]) (by rw [List.getElem?_append_right (by omega),hx1];simp)
   simpa using this
 refine ⟨.string l[i],fun w' hx'=>?_,k (key w h.is).2⟩
 have h0:=(key w' (h.2 w' fun c h5 h6=>hx'.block c (Nat.lt_of_lt_of_le h6 h.1) (hX c h5 h6))).1
 rw [Nat.mul_one] at h0
 have hA:=zcl ty9 w'
 simp [Instr.loadAt,Instr.sureAddr,loadVar,hA,h0]
theorem zqL (bs:List UInt8) (s:Cur):(za2 bs 2 s).1.length≤4∧(za2 bs 1 (za2 bs 2 s).2).1.length≤4∧(zfB bs s).1.length≤50∧(zgs bs (zfB bs s)).1.length≤53:=by
 refine ⟨ziZ 4 0 _,ziZ 4 0 _,?_,?_⟩
 · have:=zm9 bs s;have:=zkV (zfB bs s).1;omega
 have:=zqu bs (zm9 bs s);have:=zkV (zgs bs (zfB bs s)).1;omega
theorem zom {X:Nat→Prop} {w:World} {m:Sem Value} {p:Value} {K:Value→Prop} (h:∀ w':World,m.run Tryz.prog w'=.ok p w') (k:K p):RDX Tryz.prog X m w K:=⟨p,fun w' _=>h w',k⟩
theorem zqM {pr:List ByteArray} (h:1<pr.length):(pr.drop 1).getD 0 nO=pr[1]:=by
 rw [List.getD_eq_getElem?_getD,List.getElem?_drop,List.getElem?_eq_getElem h];rfl
theorem zjD {bs:List UInt8} {pr l:List ByteArray} {k:Nat} {s:Cur} (hk:k<l.length):zbi bs pr (l.drop k) k s =
   (⟨l[k],(zc1 bs pr k s).1⟩ :: (zbi bs pr (l.drop (k+1)) (k+1) (zc1 bs pr k s).2).1,(zbi bs pr (l.drop (k+1)) (k+1) (zc1 bs pr k s).2).2):=by
 rw [List.drop_eq_getElem_cons hk,zbi]
theorem zpk {W w:World} {g:Nat} {bs:List UInt8} {s:Cur} (hC:CurAt W g bs s w) :
   CALL Tryz.prog 129 [.pointer (some ⟨g,0,none⟩)] w fun r w'=>ChgI g (g+1) w w'∧CurAt W g bs (zdJ bs s).2 w'∧OwnI w.heap.size w'.heap.size w' r (zdJ bs s).1:=by
 have hgl:=hC.lt
 refine F129_call ?_
 unfold F129
 refine zcV zuv fun w1 hx1 hB1=>?_
 have hs1:=hx1.size
 have hg1:=hB1.lt
 refine zuH fun v7 w2 hx2 o7=>?_
 have hs2:=hx2.size
 refine zqD fun v8 w3 hx3 o8=>?_
 have hs3:=hx3.size
 have o7:=o7.ext hx3
 obtain ⟨a7,cap7,rfl⟩:=zeL o7
 obtain ⟨a8,cap8,rfl⟩:=zeL o8
 refine zaS (cells:=#[.slice a7 glb.length cap7,.slice a8 lks.length cap8,.slice none 0 0]) (by kernel_rfl) ?_
 refine zcV zuv fun w4 hx4 hB4=>?_
 have hs4:=hx4.size
 have hg4:=hB4.lt
 have o7:=o7.ext hx4
 have o8:=o8.ext hx4
 refine zdK (x:=(⟨glb,lks,[]⟩:DProg)) (lo:=w1.heap.size) (hi:=w3.heap.size) zfx rfl hB4 rfl (zmb (l0:=w1.heap.size) (h0:=w2.heap.size) (l1:=w2.heap.size) (h1:=w3.heap.size) (l2:=w3.heap.size) (h2:=w3.heap.size) o7 o8 zbW (by omega) (by omega) (by omega) (by omega) (by omega) (by omega)) fun w5 hc5 hB5=>?_
 have hs5:=hc5.size
 have o7:=o7.chg hc5 (by omega)
 have o8:=o8.chg hc5 (by omega)
 have hx05:Ext w w5:=Ext.chgI (hx1.trans (hx2.trans (hx3.trans hx4))) hc5 (by omega)
 have hB15:=(hB1.ext (hx2.trans (hx3.trans hx4))).chgI hc5 (by omega)
 refine zuI fun v10 w6 hx6 o10=>?_
 have hs6:=hx6.size
 refine (zct (hC.ext (hx05.trans hx6)) (by omega)).mono ?_
 rintro _ w7 ⟨hc7,hC7,rfl⟩
 have hs7:=hc7.size
 have o7:=(o7.ext hx6).chg hc7 (by omega)
 have o8:=(o8.ext hx6).chg hc7 (by omega)
 have o10:=o10.chg hc7 (by omega)
 have hB7:=(hB5.ext hx6).chgI hc7 (by omega)
 have hB17:=(hB15.ext hx6).chgI hc7 (by omega)
 have hbx:=zcr bs (n:=3) (by omega) s
 have hN:=zqE bs s
 refine zdo (by unfold I64;omega) ?_
 obtain ⟨a10,cap10,rfl⟩:=zeL o10
 have hK10:=o10.isK (by omega)
 obtain ⟨np,hnp⟩:∃ np:Nat,np=2+(zbs bs 3 s).toNat:=⟨_,rfl⟩
 have hnp4:np≤prc4.length:=by show np≤4;omega
 have hprN:zi1 bs s=prc4.take np:=by rw [hnp];rfl
 have hprl:(zi1 bs s).length=np:=by rw [hprN,List.length_take];omega
 have hK:=hK10.take hnp4
 rw [←hprN] at hK
 have hsl:∀ w':World,(Instr.sliceAt 24 (.slice a10 prc4.length cap10) none (some (.int .i64 (2+zbs bs 3 s))) none).run Tryz.prog w'=.ok (.slice a10 np cap10) w':=fun w'=>by
   obtain ⟨a',cap',Fi',xs',hv',q1,q2,_⟩:=zcU o10.is
   simp only [Value.slice.injEq] at hv'
   obtain ⟨rfl,_,rfl⟩:=hv'
   have hb:(Instr.sliceBounds true prc4.length cap10 none (some (.int .i64 (2+zbs bs 3 s))) none).run Tryz.prog w'=.ok (0,np,cap10) w':=by
     have h1:2+zbs bs 3 s≤(cap10:Int):=by omega
     have h2:(0:Int)≤2+zbs bs 3 s:=by omega
     have h3:(2+zbs bs 3 s).toNat=np:=by omega
     simp [Instr.sliceBounds,Instr.sliceBound,asIntOf,h1,h2,h3]
   simp only [Instr.sliceAt,Instr.slice,Sem.run_bind,run_underlying u24,Result.andThen_ok,hb,zaE ty9]
   simp
   exact fun _=>by cases a10<;>simp [Addr.add_mid,Addr.add]
 refine za3 (fun w' _=>hsl w') ?_
 obtain ⟨L,hL⟩:∃ L,L=zi1 bs s:=⟨_,rfl⟩
 rw [←hL] at hK hN hprl
 have hp0:0<(L.drop 1).length:=by rw [List.length_drop];omega
 have hc07:ChgI g (g+1) w w7:=((hx05.trans hx6).toI).trans hc7
 refine zas L.length (fun k us w'=>us=[.int .i64 (k:Int)]∧∃ (ps:List DProc) (s1:Cur) (vr:Value) (hi:Nat),k≤L.length∧ps.length=k∧zbi bs (L.drop 1) L 0 (zao bs 3 s)=(ps++(zbi bs (L.drop 1) (L.drop k) k s1).1,(zbi bs (L.drop 1) (L.drop k) k s1).2) ∧
     CurAt W g bs s1 w'∧ChgI g (g+1) w w'∧Blk w3.heap.size 112 w' [.slice a7 glb.length cap7,.slice a8 lks.length cap8,vr]∧OwnI w1.heap.size w2.heap.size w' (.slice a7 glb.length cap7) glb∧OwnI w2.heap.size w3.heap.size w' (.slice a8 lks.length cap8) lks ∧
     IsK w5.heap.size w6.heap.size w' (.slice a10 np cap10) L∧RowI w6.heap.size hi 164 w' vr ps∧w6.heap.size≤hi∧hi≤w'.heap.size∧Blk w.heap.size 112 w' [.slice none 0 0,.slice none 0 0,.slice none 0 0]) 0 (Nat.zero_le _)
     ⟨rfl,[],zao bs 3 s,.slice none 0 0,w6.heap.size,Nat.zero_le _,rfl,by simp,hC7,hc07,hB7,o7,o8,hK,zc0 _ _ _ _,Nat.le_refl _,by omega,hB17⟩ ?_
 rintro k m u w8 hkm ⟨hu,ps,s1,vr,hi,hkl,hps,hdr,hC8,hc8,hB8,o7,o8,hK8,r8,hhi0,hhi,hB18⟩
 simp only [List.map_cons,List.map_nil,List.cons.injEq,and_true] at hu
 rw [hu]
 have hs8:=hc8.size
 refine zag u24 hK8.is ?_
 refine zah ?_
 refine br (fun hlt=>?_) (fun hge=>?_)
 · have hk:k<L.length:=by omega
   rw [zjD hk] at hdr
   obtain ⟨q1,q2,q3,q4⟩:=zqL bs s1
   refine ((znc 2 (by omega)).2 hC8 rfl).mono ?_
   rintro v22 w9 ⟨hc9,hC9,r22⟩
   have hs9:=hc9.size
   refine ((znc 1 (by omega)).2 hC9 rfl).mono ?_
   rintro v24 w10 ⟨hc10,hC10,r24⟩
   have hs10:=hc10.size
   refine zpd (α:=DStmt) zeE zbC zo3 (r22.chg hc10 (by omega)) (by omega) r24.own (by omega) (by omega) (by rw [zap];omega) (by omega) fun v25 w11 hc11 r25=>?_
   have hs11:=hc11.size
   have hC11:=hC10.chg hc11 (by omega) (by omega)
   have hu11:UpG g w8.heap.size w8 w11:=(hc9.upG1.trans hc10.upG1).trans (hc11.upG (by omega))
   refine JOIN.mk (fun us w'=>∃ v,us=[v]∧UpG g w8.heap.size w8 w'∧CurAt W g bs (zfB bs s1).2 w'∧OwnI w8.heap.size w'.heap.size w' v (zfB bs s1).1) ?_ ?_
   · refine (zi8 _ r25.is (Ext.refl _) (by omega) (by omega)).mono ?_
     rintro _ w12 ⟨hx12,rfl⟩
     have hs12:=hx12.size
     refine zah ?_
     refine br (fun h0=>?_) (fun h0=>?_)
     · refine zjZ (lo:=w12.heap.size) (hi:=w12.heap.size) (Nat.le_refl _) (by unfold I64;omega) fun v29 o29=>?_
       refine zjT (α:=DStmt) (lo:=w12.heap.size) (hi:=w12.heap.size) zeE zbC zuh (by decide) o29 (by omega) fun v30 w13 hx13 o30=>?_
       refine ⟨v30,rfl,(hu11.trans hx12.upG).trans hx13.upG,hC11.ext (hx12.trans hx13),?_⟩
       unfold zfB
       rw [if_pos h0]
       exact o30.mono (by omega) (by omega)
     refine ⟨v25,rfl,hu11.trans hx12.upG,hC11.ext hx12,?_⟩
     unfold zfB
     rw [if_neg h0]
     exact (r25.ext hx12).own.mono (by omega) (by omega)
   rintro u9 w14 ⟨v14,hu,hu14,hC14,o14⟩
   simp only [List.map_cons,List.map_nil,List.cons.injEq,and_true] at hu
   rw [hu]
   have hs14:=hu14.size
   have hgw:g<w8.heap.size:=by omega
   refine JOIN.mk (fun us w'=>∃ v,us=[v]∧UpG g w8.heap.size w8 w'∧CurAt W g bs (zgs bs (zfB bs s1)).2 w'∧OwnI w8.heap.size w'.heap.size w' v (zgs bs (zfB bs s1)).1) ?_ ?_
   · refine (zfV hC14 (by omega)).mono ?_
     rintro _ w15 ⟨hc15,hC15,rfl⟩
     have hs15:=hc15.size
     have o15:=o14.chg hc15 (by omega)
     refine br (fun h0=>?_) (fun h0=>?_)
     · refine (zk5 hC15 o15 (by omega) (by omega) hgw (by omega)).mono ?_
       rintro v35 w16 ⟨hu16,hC16,r16⟩
       refine ⟨v35,rfl,(hu14.trans hc15.upG1).trans hu16,?_,?_⟩
       · unfold zgs;rw [if_pos h0];exact hC16
       unfold zgs;rw [if_pos h0];exact r16.own
     refine ⟨v14,rfl,hu14.trans hc15.upG1,?_,?_⟩
     · unfold zgs;rw [if_neg h0];exact hC15
     unfold zgs;rw [if_neg h0];exact o15.mono (Nat.le_refl _) hs15
   rintro u11 w17 ⟨v17,hu,hu17,hC17,o17⟩
   simp only [List.map_cons,List.map_nil,List.cons.injEq,and_true] at hu
   rw [hu]
   have hs17:=hu17.size
   have hK17:=hK8.upG hu17 (by omega) (by omega)
   have hone:1<L.length:=by omega
   refine JOIN.mk (fun us w'=>∃ v,us=[v]∧UpG g w8.heap.size w8 w'∧CurAt W g bs (zib bs k ((L.drop 1).getD 0 nO) (zgs bs (zfB bs s1))).2 w'∧OwnI w8.heap.size w'.heap.size w' v (zib bs k ((L.drop 1).getD 0 nO) (zgs bs (zfB bs s1))).1) ?_ ?_
   · refine zai ?_
     refine br (fun hk0=>?_) (fun hk0=>?_)
     · have hk0':k=0:=by omega
       refine (zfV hC17 (by omega)).mono ?_
       rintro _ w18 ⟨hc18,hC18,rfl⟩
       have hs18:=hc18.size
       have o18:=o17.chg hc18 (by omega)
       have hK18:=hK17.chgF hc18.toC (by simp;omega)
       refine br (fun h0=>?_) (fun h0=>?_)
       · refine zb0 (l:=L) (i:=1) u24 ty9 hK18.is (by omega) (by show 1<L.length;omega) fun b43 o43 hA43=>?_
         refine zav ty9 hA43 (Ext.refl _) fun hS44=>?_
         refine zcu (lo:=w18.heap.size) (hi:=w18.heap.size) (Nat.le_refl _) (by unfold I64;omega) hS44 fun v45 o45=>?_
         refine zbH (β:=DStmt) zeE zbC zuh (by decide) (zj1 o45) fun v46 w19 hx19 r46=>?_
         have hs19:=hx19.size
         refine zhv (α:=DStmt) (lo0:=w8.heap.size) zeE zbC zo3 r46 (by omega) (o18.ext hx19) (by omega) (by omega) (by omega) (by rw [zap];simp;omega) (by simp;omega) fun v48 w20 hc20 r48=>?_
         refine ⟨v48,rfl,((hu17.trans hc18.upG1).trans hx19.upG).trans (hc20.upG (by omega)),?_,?_⟩
         · unfold zib
           rw [if_pos hk0',if_pos h0]
           exact (hC18.ext hx19).chg hc20 (by omega) (by omega)
         unfold zib
         rw [if_pos hk0',if_pos h0,zqM hone]
         exact r48.own
       refine ⟨v17,rfl,hu17.trans hc18.upG1,?_,?_⟩
       · unfold zib;rw [if_pos hk0',if_neg h0];exact hC18
       unfold zib;rw [if_pos hk0',if_neg h0];exact o18.mono (Nat.le_refl _) hs18
     have hk0':¬k=0:=by omega
     refine ⟨v17,rfl,hu17,?_,?_⟩
     · unfold zib;rw [if_neg hk0'];exact hC17
     unfold zib;rw [if_neg hk0'];exact o17
   rintro u13 w21 ⟨v21,hu,hu21,hC21,o21⟩
   simp only [List.map_cons,List.map_nil,List.cons.injEq,and_true] at hu
   rw [hu]
   have hs21:=hu21.size
   have hx22:=zaj w21
   have hs22:=hx22.size
   generalize World.drew1 w21=w22 at *
   have hu22:UpG g w8.heap.size w8 w22:=hu21.trans hx22.upG
   have hB22:=hB8.upG hu22 (by omega) (by omega)
   have hK22:=hK8.upG hu22 (by omega) (by omega)
   have r22:=r8.upG hu22 (by omega) (by omega)
   have o22:=o21.ext hx22
   have hC22:=hC21.ext hx22
   refine XR.mk (fun c=>c=g∨w8.heap.size≤c) ?_
   have hXK:∀ b,w5.heap.size≤b→b<w6.heap.size→¬(b=g∨w8.heap.size≤b):=fun b h1 h2=>by omega
   refine zk1 zcK ?_
   refine zof zgh (u:=vr) (fun j v hj=>?_) (by omega) ?_
   · have:=hB22.range 2 vr rfl
     match j,hj with
     | 0,hj=>simp at hj;subst hj;simpa using this
     | j+1,hj=>simp at hj
   obtain ⟨p53,hp53,hl53⟩:=zsg (X:=fun c=>c=g∨w8.heap.size≤c) (K:=fun v=>L[k].size≤maxLen∧v=.string L[k]) hK22 hprl.symm hk hXK fun h=>⟨h,rfl⟩
   refine zom hp53 ?_
   obtain ⟨v54,hv54,hS54,rfl⟩:=hl53
   refine RDX.mk _ hv54 ?_
   have hd1:∀ w':World,(Instr.sliceAt 24 (.slice a10 np cap10) (some (.int .i64 1)) none none).run Tryz.prog w'=.ok (.slice (if cap10=1 then a10 else a10.map (·.add (1*Rep.size ByteArray))) (np-1) (cap10-1)) w':=fun w'=>by
     obtain ⟨a',cap',Fi',xs',hv',z1,z2,_⟩:=zcU hK22.is
     simp only [Value.slice.injEq] at hv'
     obtain ⟨rfl,_,rfl⟩:=hv'
     have hb:(Instr.sliceBounds true np cap10 (some (.int .i64 1)) none none).run Tryz.prog w'=.ok (1,np,cap10) w':=by
       have h1:(1:Int)≤(np:Int):=by omega
       simp [Instr.sliceBounds,Instr.sliceBound,asIntOf,h1]
     simp [Instr.sliceAt,Instr.slice,run_underlying u24,hb,zaE ty9]
     rfl
   refine zom hd1 ?_
   have hK1:IsK w5.heap.size w6.heap.size w22 (.slice (if cap10=1 then a10 else a10.map (·.add (1*Rep.size ByteArray))) (np-1) (cap10-1)) (L.drop 1):=by
     have:=IsK.drop (l:=L) (k:=1) (by rw [hprl];exact hK22) (by omega)
     rwa [hprl] at this
   obtain ⟨F,hMF,hF⟩:=o22
   refine (zqy _ hC22 hMF (fun h=>by have:=hF g h;omega) (fun c hc=>by have:=hF c hc;omega) hK1 (by omega) (fun c hc=>by have:=hF c hc;omega) hp0 (by rw [List.length_drop];omega)).mono ?_
   rintro r59 w23 ⟨h59,hc23,hC23,F',hM23,hF'⟩
   rw [h59]
   have hs23:=hc23.size
   refine ⟨hc23.toX fun c hc=>?_,?_⟩
   · rcases List.mem_cons.1 hc with rfl | hc
     · exact .inl rfl
     exact .inr (hF c hc).1
   have hu23:UpG g w8.heap.size w22 w23:=hc23.upG fun c hc=>(hF c hc).1
   have o23:OwnI w8.heap.size w22.heap.size w23 v21 (zc1 bs (L.drop 1) k s1).1:=⟨F',hM23,fun c hc=>⟨(hF c (hF' c hc)).1,hMF.lt c (hF' c hc)⟩⟩
   obtain ⟨a21,c21,rfl⟩:=zeL o23
   refine zsd (fun w'=>zpj) ?_
   have o60:=zqC hS54 o23
   have hB23:=hB22.upG hu23 (by omega) (by omega)
   have r23:=r22.upG hu23 (by omega) (by omega)
   refine zkH (α:=DProc) znZ zlT zvC zvd (by decide) r23 (by omega) o60 (by omega) (by omega) (by rw [zap];omega) (by omega) (fun v62 w24 hc24 r24'=>?_) fun s' w' hx' h'=>⟨hx'.toX,h'⟩
   have hs24:=hc24.size
   refine zk1 zcK ?_
   have hB24:=hB23.chgI hc24 (by omega)
   refine zbR (α:=List DProc) zgh rfl rfl hB24 (by simp) r24'.own fun w25 hc25 hB25=>?_
   have hs25:=hc25.size
   refine zaf (by omega) ?_
   have hu25:UpG g w6.heap.size w8 w24:=((hu22.trans hu23).mono (by omega)).trans (hc24.upG (by omega))
   refine ⟨m-1,by omega,k+1,by omega,rfl,ps++[⟨L[k],(zc1 bs (L.drop 1) k s1).1⟩],(zc1 bs (L.drop 1) k s1).2,v62,w24.heap.size,by omega,by simp [hps],by rw [hdr];simp,?_,?_,hB25,?_,?_,?_,r24'.chg hc25 (by omega),by omega,by omega,?_⟩
   · exact (hC23.chg hc24 (by omega) (by omega)).chg hc25 (by omega) (by omega)
   · have h1:ChgI g (g+1) w w23:=hc8.trans ((hu22.trans hu23).toI (Nat.le_refl _))
     exact ChgI.out (ChgI.out h1 hc24 (by omega)) hc25 (by omega)
   · exact (o7.upG hu25 (by omega) (by omega)).chg hc25 (by omega)
   · exact (o8.upG hu25 (by omega) (by omega)).chg hc25 (by omega)
   · exact (hK8.upG hu25 (Nat.le_refl _) (by omega)).chgF hc25.toC (by simp;omega)
   exact (hB18.upG hu25 (by omega) (by omega)).chgI hc25 (by omega)
 have hk:k=L.length:=by omega
 subst hk
 rw [List.drop_length,zbi] at hdr
 simp only [List.append_nil] at hdr
 have hpe:zdJ bs s=(⟨glb,lks,ps⟩,s1):=by
   unfold zdJ
   rw [←hL,hdr]
 rw [hpe]
 refine zk0 hB8 zfx ?_
 have ost:OwnI w1.heap.size w8.heap.size w8 (.agg #[.slice a7 glb.length cap7,.slice a8 lks.length cap8,vr]) (⟨glb,lks,ps⟩:DProg):=
   zmb (l0:=w1.heap.size) (h0:=w2.heap.size) (l1:=w2.heap.size) (h1:=w3.heap.size) (l2:=w6.heap.size) (h2:=hi) o7 o8 r8.own (by omega) (by omega) (by omega) (by omega) (by omega) (by omega)
 refine zdK zfx rfl hB18 rfl ost fun w9 hc9 hB9=>?_
 have hs9:=hc9.size
 refine zi3 hB9 zfx ?_
 exact ⟨ChgI.out hc8 hc9 (Nat.le_refl _),hC8.chg hc9 (by omega) (by omega),(ost.chg hc9 (by omega)).mono (by omega) (by omega)⟩
theorem CodeR.f {c:DCode} (h:CodeR c):EntF c:=h.2.1.f h.1.procs8.2
def F105 (a0 a1:Value) (w:World) (R:VW):Prop:=
 oP (Instr.box 28 a0) w fun x2 w=>
 rB .geq 3 T0 U0 a1 (iV 0) w fun x6=>
 BR x6
 (rF 28 x2 4 w fun x9=>
 rL 26 x9 w fun x10=>
 rN 26 3 x10 w fun x11=>
 rC a1 x11 w fun x12=>
 R x12 w)
 (R (Value.bool false) w)
def cfg105:Cfg:=⟨extL,[],[],[],[],[],[]⟩
theorem F105_call {a0 a1:Value} {w:World} {R:VW} (h:F105 a0 a1 w R):cL 105 [a0,a1] w R:=co (g:=cfg105) Tryz.func105 (by kernel_rfl) (by kernel_rfl) (by kernel_rfl) h
theorem zpl {w:World} {v0:Value} {W0:World} {c:DCode} {a:Int}  (h0:Is W0 v0 c) (e0:Ext W0 w)  :
   CALL Tryz.prog 105 [v0,.int .i64 a] w fun r w'=>Ext w w'∧(r=.bool (decide (0≤a∧a<c.ins.length))):=by
 refine F105_call ?_
 unfold F105
 refine zaW zbm rfl h0 e0 fun w1_ hx1_ hA2 hV2=>?_
 refine zck ?_
 refine br (fun c1=>?_) (fun c1=>?_)
 · refine zaa zaG ?_
   refine zab zcO (zal hA2) (Ext.refl w1_) fun v10 h10=>?_
   have hln11:=zan h10
   refine zag u26 h10 ?_
   refine zah ?_
   refine ⟨hx1_,?_⟩
   simp [c1]
 refine ⟨hx1_,?_⟩
 simp [c1]
def F208 (a0 a1:Value) (w:World) (R:VW):Prop:=
 oP (Instr.box 28 a0) w fun x2 w=>
 LOOPI [5] [(iV 0)] w fun u2 w next2=>
 rA (u2 5) (iV 1) w fun x7=>
 rF 28 x2 3 w fun x8=>
 rL 25 x8 w fun x9=>
 rN 25 3 x9 w fun x10=>
 rC x7 x10 w fun x11=>
 BR x11
 (rF 28 x2 3 w fun x13=>
 rL 25 x13 w fun x14=>
 rA (u2 5) (iV 1) w fun x16=>
 rX 25 x14 x16 w fun x17=>
 rL 3 x17 w fun x18=>
 rB .leq 3 T0 T0 x18 a1 w fun x20=>
 BR x20
 (rA (u2 5) (iV 1) w fun x23=>
 next2 [x23] w)
 (R (u2 5) w))
 (R (u2 5) w)
def cfg208:Cfg:=⟨extL,[],[(2,16777184,[5])],[],[],[],[]⟩
theorem F208_call {a0 a1:Value} {w:World} {R:VW} (h:F208 a0 a1 w R):cL 208 [a0,a1] w R:=co (g:=cfg208) Tryz.func208 (by kernel_rfl) (by kernel_rfl) (by kernel_rfl) h
theorem zml {w:World} {v0:Value} {W0:World} {c:DCode} {a:Int}  (h0:Is W0 v0 c) (e0:Ext W0 w) (hc:CodeR c) (ha:0≤a) (ha2:a<c.ins.length) :
   CALL Tryz.prog 208 [v0,.int .i64 a] w fun r w'=>Ext w w'∧(r=.int .i64 (zar c a)):=by
 refine F208_call ?_
 unfold F208
 have hf:=hc.f
 have h8:=hc.1.procs8
 have hl:=hf.len
 refine zaW zbm rfl h0 e0 fun w1_ hx1_ hA2 hV2=>?_
 refine zas (c.entry.length-1) (fun k us w'=>us=[.int .i64 (k:Int)]∧Ext w1_ w'∧(en c k≤a)) (0) (by omega) ⟨by simp,Ext.refl w1_,by rw [hf.zero];exact ha⟩ ?_
 rintro k m2 uu2 w2_ hk2 ⟨hu,hx2_,hinv⟩
 simp only [List.map_cons,List.map_nil,List.cons.injEq,and_true] at hu
 try rw [hu]
 try clear hu
 refine zaf (by omega) ?_
 refine zaa za1 ?_
 refine zab zcN (zaq hA2) hx2_ fun v9 h9=>?_
 have hln10:=zan h9
 refine zag u25 h9 ?_
 refine zah ?_
 refine br (fun c1=>?_) (fun c1=>?_)
 · refine zaa za1 ?_
   refine zab zcN (zaq hA2) hx2_ fun v14 h14=>?_
   refine zaf (by omega) ?_
   refine zad u25 ty3 h14 (by omega) fun b17 o17 h17=>?_
   refine zac ty3 h17 hx2_ fun hI18=>?_
   refine zcT ?_
   refine br (fun c2=>?_) (fun c2=>?_)
   · refine zaf (by omega) ?_
     refine ⟨m2-1,by omega,k+1,by omega,by simp,hx2_,?_⟩
     rwa [zbh] at c2
   refine ⟨(hx1_.trans hx2_),?_⟩
   rw [zbh] at c2
   rw [hf.proc (i:=k) (by omega) hinv (by rw [hf.step (by omega)];omega)]
 refine ⟨(hx1_.trans hx2_),?_⟩
 rw [hf.proc (i:=k) (by omega) hinv (by rw [hf.last (by omega)];omega)]
def st (l:List Int) (i:Nat):Int:=l.getD i 0
def zqN (c:DCode) (l:List Int):Prop:=l.length≤8∧(∀ i,i<l.length→0≤st l i∧st l i<c.ins.length) ∧
 ∀ i,i<l.length-1→(zak c (st l i).toNat).op=4∧zar c (st l (i+1))=(zak c (st l i).toNat).arg
instance (c:DCode) (l:List Int):Decidable (zqN c l):=by unfold zqN;infer_instance
def zon (c:DCode) (s:DState):Prop:=s.vars.length=c.globals.length∧s.owner.length=c.locks.length∧(1≤s.stacks.length∧s.stacks.length≤6)∧(∀ v∈s.vars,0≤v∧v≤999) ∧
 (∀ o∈s.owner,-1≤o∧o<s.stacks.length)∧∀ l∈s.stacks,zqN c l
instance (c:DCode) (s:DState):Decidable (zon c s):=by unfold zon;infer_instance
def zsX (s:DState):Prop:=∀ x∈s.stacks,x=[]
instance (s:DState):Decidable (zsX s):=inferInstanceAs (Decidable (∀ x∈s.stacks,x=[]))
def ow (s:DState) (i:Int):Int:=s.owner.getD i.toNat 0
def stk (s:DState) (t:Int):List Int:=s.stacks.getD t.toNat []
def atI (c:DCode) (s:DState) (t:Int):DIns:=zak c (zuz s t).toNat
theorem zgY {c:DCode} (hc:CodeR c) {j:Nat} (hj:j<c.ins.length):zgp c (zak c j) (en c (zar c j).toNat) (zeF c (zar c j)+1):=hc.2.2 j hj
theorem zsh {c:DCode} (hc:CodeR c) {j:Nat} (hj:j<c.ins.length) (h:(zak c j).op=6∨(zak c j).op=7):0≤(zak c j).arg∧(zak c j).arg<c.locks.length:=by
 have:=(zgY hc hj).2.1
 unfold zbM at this
 rwa [if_neg (by omega),if_neg (by omega),if_pos h] at this
theorem NamesR.locks6 {c:DCode} (h:NamesR c):c.locks.length≤6:=by
 have h1:=h.2.1
 simp only [Bool.and_eq_true,decide_eq_true_eq] at h1
 omega
theorem NamesR.globals6 {c:DCode} (h:NamesR c):c.globals.length≤6:=by
 have h1:=h.1
 simp only [Bool.and_eq_true,decide_eq_true_eq] at h1
 omega
def GoR (c:DCode) (s:DState) (t:Int):Prop:=0≤zuz s t∧((atI c s t).op=6→ow s (atI c s t).arg=-1)∧((atI c s t).op=4→((stk s t).length:Int)<8)
instance (c:DCode) (s:DState) (t:Int):Decidable (GoR c s t):=by unfold GoR;infer_instance
def zhC (c:DCode) (s:DState) (t:Int):Int:=if 0≤zuz s t∧(atI c s t).op=6∧0≤ow s (atI c s t).arg then (atI c s t).arg else -1
def zni (c:DCode) (s:DState):Nat→List Int
 | 0=>[]
 | k+1=>if GoR c s k then zni c s k++[(k:Int)] else zni c s k
def zuM (c:DCode) (s:DState):List Int:=zni c s s.stacks.length
def zmm (c:DCode) (s:DState):Prop:=(CodeR c∧zon c s)∧¬zsX s∧zuM c s=[]
instance (c:DCode) (s:DState):Decidable (zmm c s):=by unfold zmm;infer_instance
def F12 (a0:Value) (w:World) (R:VW):Prop:=
 oP (Instr.box 28 a0) w fun x1 w=>
 oP (Instr.alloc 33 true (.tuple #[])) w fun x2 w=>
 rL 28 x1 w fun x3=>
 cL 72 [x3] w fun x4 w=>
 rD (Op.unary .not x4) w fun x5=>
 BR x5
 (rD (Instr.build 33 #[]) w fun x6=>
 oS 33 x2 x6 w fun w=>
 rD (za9 33 x2) w fun r2=>R r2 w)
 (rL 28 x1 w fun x7=>
 cL 73 [x7] w fun x8 w=>
 oS 33 x2 x8 w fun w=>
 rD (za9 33 x2) w fun r2=>R r2 w)
theorem ztL {c:DCode} (hc:CodeR c):0≤plc zgo c.procs∧(plc zgo c.procs).toNat<c.entry.length:=by
 have h1:=zet.2 hc.1.2.2.2.2.2.2
 have h2:=ziP (s:=zgo) (l:=c.procs)
 have h3:=hc.2.1.1
 omega
def F90 (a0:Value) (w:World) (R:VW):Prop:=
 oP (Instr.box 28 a0) w fun x1 w=>
 rF 28 x1 2 w fun x3=>
 rL 24 x3 w fun x4=>
 cL 150 [x4,(Value.string (ByteArray.mk #[109,97,105,110]))] w fun x5 w=>
 R x5 w
def cfg90:Cfg:=⟨extL,[],[],[],[],[],[]⟩
theorem F90_call {a0:Value} {w:World} {R:VW} (h:F90 a0 w R):cL 90 [a0] w R:=co (g:=cfg90) Tryz.func90 (by kernel_rfl) (by kernel_rfl) (by kernel_rfl) h
theorem zfZ {w:World} {v0:Value} {W0:World} {c:DCode}  (h0:Is W0 v0 c) (e0:Ext W0 w)  :
   CALL Tryz.prog 90 [v0] w fun r w'=>Ext w w'∧(r=.int .i64 (plc zgo c.procs)):=by
 refine F90_call ?_
 unfold F90
 refine zaW zbm rfl h0 e0 fun w1_ hx1_ hA1 hV1=>?_
 refine zaa zbb ?_
 refine zab zcj (zat hA1) (Ext.refl w1_) fun v4 h4=>?_
 refine (zbL h4 (Ext.refl w1_)).mono ?_
 rintro _ w2_ ⟨hx2_,rfl⟩
 refine ⟨(hx1_.trans hx2_),?_⟩
 rfl
theorem zgu {α:Type} {l:List α} {i:Nat} {x y:α} (h:y∈l.set i x):y=x∨y∈l:=by
 rcases List.mem_or_eq_of_mem_set h with h | h
 · exact .inr h
 exact .inl h
theorem zqO {c:DCode} (hc:CodeR c) {a:Int} (h0:0≤a) (h1:a<c.ins.length) (ho:(zak c a.toNat).op≠9):a+1<c.ins.length∧zar c (a+1)=zar c a:=by
 obtain ⟨i,hi,h2,h3,h4⟩:=hc.f.find hc.1.procs8.2 h0 h1
 have h5:=(hc.2.1.2.2.2 a.toNat (by omega))
 rw [Int.toNat_of_nonneg h0,h4,zdH] at h5
 have h6:zdk c i-1≠a:=fun e=>ho (h5.2 e)
 have h7:=(hc.f.lt i hi).2
 exact ⟨by omega,by rw [h4];exact hc.f.proc hi (by omega) (by omega)⟩
theorem znj {c:DCode} (hc:CodeR c) {a:Int} (h0:0≤a) (h1:a<c.ins.length) (ho:(zak c a.toNat).op=2∨(zak c a.toNat).op=3) :
   0≤(zak c a.toNat).to∧(zak c a.toNat).to<c.ins.length∧zar c (zak c a.toNat).to=zar c a:=by
 obtain ⟨i,hi,h2,h3,h4⟩:=hc.f.find hc.1.procs8.2 h0 h1
 have h5:=(zgY hc (j:=a.toNat) (by omega)).2.2.2
 rw [if_pos ho,Int.toNat_of_nonneg h0,h4,zdH,Int.toNat_natCast] at h5
 have h6:=hc.f.nonneg hi
 have h7:=(hc.f.lt i hi).2
 exact ⟨by omega,by omega,by rw [h4];exact hc.f.proc hi h5.1 (by omega)⟩
theorem zqP {c:DCode} (hc:CodeR c) {i:Nat} (hi:i<c.entry.length):0≤en c i∧en c i<c.ins.length∧zar c (en c i)=i:=by
 have h6:=hc.f.nonneg hi
 have h7:=hc.f.lt i hi
 exact ⟨h6,by omega,hc.f.proc hi (Int.le_refl _) h7.1⟩
end Go.Proofs.YtbnjpfjjmhodnaaGreat
namespace Go.Sh
def zaI (l:List Nat):List Int:=l.map fun x:Nat=>(x:Int)
theorem zae (l:List Nat):(zaI l).length=l.length:=by simp [zaI]
theorem zaM {l:List Nat} {i:Nat} (h:i<(zaI l).length):(zaI l)[i]=((l[i]'(by rw [←zae];exact h):Nat):Int):=by simp [zaI]
theorem zb3 (l m:List Nat):zaI (l++m)=zaI l++zaI m:=by simp [zaI]
theorem zqQ (l:List Nat) (k:Nat):zaI (l.take k)=(zaI l).take k:=by simp [zaI]
def mkd (ms:List Bool) (i:Nat):Prop:=ms.getD i false=true
theorem zaO {ms:List Bool} {i:Nat} (h:i<ms.length):mkd ms i↔ms[i]=true:=by
 unfold mkd;rw [List.getD_eq_getElem?_getD,List.getElem?_eq_getElem h];rfl
theorem zoo {ms:List Bool} {i:Nat} (h:mkd ms i):i<ms.length:=by
 rcases Nat.lt_or_ge i ms.length with h' | h'
 · exact h'
 unfold mkd at h;rw [List.getD_eq_getElem?_getD,List.getElem?_eq_none h'] at h;cases h
theorem zcw {ms:List Bool} {i j:Nat} (hi:i<ms.length):mkd (ms.set i true) j↔mkd ms j∨j=i:=by
 unfold mkd
 rw [List.getD_eq_getElem?_getD,List.getD_eq_getElem?_getD,List.getElem?_set]
 by_cases h:i=j
 · subst h;simp [hi]
 have:¬j=i:=fun e=>h e.symm
 simp [h,this]
theorem zbz {n i:Nat}:¬mkd (List.replicate n false) i:=by
 unfold mkd
 rw [List.getD_eq_getElem?_getD,List.getElem?_replicate]
 split<;>simp
theorem zqR {ms ns:List Bool} (hl:ms.length=ns.length) (h:∀ i,i<ms.length→(mkd ms i↔mkd ns i)):ms=ns:=by
 refine List.ext_getElem hl fun i h1 h2=>?_
 have:=h i h1
 rw [zaO h1,zaO h2] at this
 cases e1:ms[i]<;>cases e2:ns[i]<;>simp_all
def zik (ms:List Bool):Nat:=ms.count true
theorem zfF (ms:List Bool):zik ms≤ms.length:=List.count_le_length
theorem zgZ:∀ {ms:List Bool} {i:Nat},i<ms.length→¬mkd ms i→zik (ms.set i true)=zik ms+1
 | b :: ms,0,_,h=>by
   have:b=false:=by cases b<;>simp_all [mkd]
   subst this
   simp [zik]
 | b :: ms,i+1,hi,h=>by
   have ih:=zgZ (ms:=ms) (i:=i) (by simpa using hi) (by simpa [mkd] using h)
   simp only [zik,List.set_cons_succ,List.count_cons] at ih ⊢
   omega
inductive RP (nx:Nat→List Nat) (a:Nat):Nat→Prop
 | one {b:Nat} (h:b∈nx a):RP nx a b
 | more {b d:Nat} (h:RP nx a b) (k:d∈nx b):RP nx a d
theorem RP.trans {nx:Nat→List Nat} {a b d:Nat} (h:RP nx a b) (k:RP nx b d):RP nx a d:=by
 induction k with
 | one h1=>exact .more h h1
 | more _ h2 ih=>exact .more ih h2
theorem RP.keeps {nx:Nat→List Nat} {p:Nat→Prop} {a b:Nat} (h:RP nx a b) (ha:p a) (hp:∀ i j,p i→j∈nx i→p j):p b:=by
 induction h with
 | one h=>exact hp _ _ ha h
 | more _ h ih=>exact hp _ _ ih h
structure SInv (nx:Nat→List Nat) (n a:Nat) (M0 ms:List Bool) (td:List Nat) (k:Nat):Prop where
 len:ms.length=n
 sub:∀ i,mkd M0 i→mkd ms i
 src:∀ i,mkd ms i→mkd M0 i∨RP nx a i
 tdo:∀ i∈td,(i=a∨RP nx a i)∧i<n
 clo:∀ i,(i=a∨(mkd ms i∧¬mkd M0 i))→i∈td∨∀ j∈nx i,mkd ms j
 cnt:td.length+k+zik M0=1+zik ms
structure SIn2 (nx:Nat→List Nat) (n a:Nat) (M0 ms:List Bool) (td:List Nat) (k x q:Nat):Prop where
 len:ms.length=n
 sub:∀ i,mkd M0 i→mkd ms i
 src:∀ i,mkd ms i→mkd M0 i∨RP nx a i
 tdo:∀ i∈td,(i=a∨RP nx a i)∧i<n
 clo:∀ i,(i=a∨(mkd ms i∧¬mkd M0 i))→i∈td∨(i=x∧∀ j∈(nx x).take q,mkd ms j)∨∀ j∈nx i,mkd ms j
 cnt:td.length+k+1+zik M0=1+zik ms
 met:x=a∨RP nx a x
section
variable {nx:Nat→List Nat} {n a k x q:Nat} {M0 ms:List Bool} {td td':List Nat}
theorem SInv.start (hl:M0.length=n) (ha:a<n):SInv nx n a M0 M0 [a] 0:=
 ⟨hl,fun _ h=>h,fun _ h=>.inl h,fun i hi=>by simp only [List.mem_cons,List.not_mem_nil,or_false] at hi;exact ⟨.inl hi,hi▸ha⟩,fun i hi=>by
   rcases hi with rfl | ⟨h1,h2⟩
   · exact .inl (by simp)
   exact absurd h1 h2,by simp⟩
theorem SInv.bound (h:SInv nx n a M0 ms td k):td.length+k≤1+n:=by
 have h1:=h.cnt
 have h2:=zfF ms
 rw [h.len] at h2
 omega
theorem SInv.pop (h:SInv nx n a M0 ms td k) (hm:∀ i,i∈td↔i∈td'∨i=x) (hl:td.length=td'.length+1):SIn2 nx n a M0 ms td' k x 0:=
 ⟨h.len,h.sub,h.src,fun i hi=>h.tdo i ((hm i).2 (.inl hi)),fun i hi=>by
   rcases h.clo i hi with h1 | h1
   · rcases (hm i).1 h1 with h1 | rfl
     · exact .inl h1
     exact .inr (.inl ⟨rfl,by simp⟩)
   exact .inr (.inr h1),by have:=h.cnt;omega,(h.tdo x ((hm x).2 (.inr rfl))).1⟩
theorem SIn2.skip (h:SIn2 nx n a M0 ms td k x q) (hq:q<(nx x).length) (hmk:mkd ms (nx x)[q]):SIn2 nx n a M0 ms td k x (q+1):=
 ⟨h.len,h.sub,h.src,h.tdo,fun i hi=>by
   rcases h.clo i hi with h1 | ⟨rfl,h1⟩ | h1
   · exact .inl h1
   · refine .inr (.inl ⟨rfl,fun j hj=>?_⟩)
     rw [List.take_succ_eq_append_getElem hq] at hj
     rcases List.mem_append.1 hj with hj | hj
     · exact h1 j hj
     simp only [List.mem_cons,List.not_mem_nil,or_false] at hj
     rw [hj];exact hmk
   exact .inr (.inr h1),h.cnt,h.met⟩
theorem SIn2.push (h:SIn2 nx n a M0 ms td k x q) (hq:q<(nx x).length) (hn:(nx x)[q]<n) (hmk:¬mkd ms (nx x)[q]):SIn2 nx n a M0 (ms.set (nx x)[q] true) (td++[(nx x)[q]]) k x (q+1):=by
 have hs:=fun j=>zcw (ms:=ms) (i:=(nx x)[q]) (j:=j) (by rw [h.len];exact hn)
 have hr:RP nx a (nx x)[q]:=by
   rcases h.met with e | e
   · exact .one (e▸List.getElem_mem hq)
   exact .more e (List.getElem_mem hq)
 refine ⟨by simp [h.len],fun i hi=>(hs i).2 (.inl (h.sub i hi)),fun i hi=>?_,fun i hi=>?_,fun i hi=>?_,?_,h.met⟩
 · rcases (hs i).1 hi with h1 | h1
   · exact h.src i h1
   exact .inr (h1▸hr)
 · rcases List.mem_append.1 hi with h1 | h1
   · exact h.tdo i h1
   simp only [List.mem_cons,List.not_mem_nil,or_false] at h1
   exact ⟨.inr (h1▸hr),h1▸hn⟩
 · have hi':i=(nx x)[q]∨(i=a∨(mkd ms i∧¬mkd M0 i)):=by
     rcases hi with h1 | ⟨h1,h2⟩
     · exact .inr (.inl h1)
     rcases (hs i).1 h1 with h1 | h1
     · exact .inr (.inr ⟨h1,h2⟩)
     exact .inl h1
   rcases hi' with h1 | h1
   · exact .inl (List.mem_append_right _ (by simp [h1]))
   rcases h.clo i h1 with h1 | ⟨rfl,h1⟩ | h1
   · exact .inl (List.mem_append_left _ h1)
   · refine .inr (.inl ⟨rfl,fun j hj=>?_⟩)
     rw [List.take_succ_eq_append_getElem hq] at hj
     rcases List.mem_append.1 hj with hj | hj
     · exact (hs j).2 (.inl (h1 j hj))
     simp only [List.mem_cons,List.not_mem_nil,or_false] at hj
     exact (hs j).2 (.inr hj)
   exact .inr (.inr fun j hj=>(hs j).2 (.inl (h1 j hj)))
 have:=h.cnt
 rw [zgZ (by rw [h.len];exact hn) hmk,List.length_append]
 simp only [List.length_cons,List.length_nil]
 omega
theorem SIn2.done (h:SIn2 nx n a M0 ms td k x q) (hq:(nx x).length≤q):SInv nx n a M0 ms td (k+1):=
 ⟨h.len,h.sub,h.src,h.tdo,fun i hi=>by
   rcases h.clo i hi with h1 | ⟨rfl,h1⟩ | h1
   · exact .inl h1
   · rw [List.take_of_length_le hq] at h1;exact .inr h1
   exact .inr h1,by have:=h.cnt;omega⟩
theorem SInv.fin (h:SInv nx n a M0 ms [] k) (hc:∀ i,mkd M0 i→i≠a→∀ j∈nx i,mkd M0 j) (i:Nat):mkd ms i↔mkd M0 i∨RP nx a i:=by
 refine ⟨h.src i,fun hi=>?_⟩
 rcases hi with hi | hi
 · exact h.sub i hi
 have hcl:∀ b,(b=a∨mkd ms b)→∀ j∈nx b,mkd ms j:=fun b hb=>by
   by_cases hba:b=a
   · rcases h.clo b (.inl hba) with h1 | h1
     · cases h1
     exact h1
   have hb:=hb.resolve_left hba
   by_cases hm:mkd M0 b
   · exact fun j hj=>h.sub j (hc b hm hba j hj)
   rcases h.clo b (.inr ⟨hb,hm⟩) with h1 | h1
   · cases h1
   exact h1
 induction hi with
 | one h1=>exact hcl a (.inl rfl) _ h1
 | more _ h2 ih=>exact hcl _ (.inr ih) _ h2
end
noncomputable def zbP (n:Nat) (p:Nat→Prop):List Bool:=(List.range n).map fun i=>@decide (p i) (Classical.propDecidable _)
noncomputable def zbn (n:Nat) (p:Nat→Prop):List Nat:=(List.range n).filter fun i=>@decide (p i) (Classical.propDecidable _)
noncomputable def zhc (p:Nat→Prop):Nat→Nat
 | 0=>0
 | n+1=>zhc p n ||| (if @decide (p n) (Classical.propDecidable _) then 2^n else 0)
section
variable {n:Nat} {p q:Nat→Prop}
theorem zam:(zbP n p).length=n:=by simp [zbP]
theorem zaH {i:Nat}:mkd (zbP n p) i↔i<n∧p i:=by
 constructor
 · intro h
   have hl:=zoo h
   rw [zaO hl] at h
   rw [zam] at hl
   refine ⟨hl,?_⟩
   simpa [zbP] using h
 rintro ⟨h1,h2⟩
 rw [zaO (by rw [zam];exact h1)]
 simpa [zbP] using h2
theorem zcc {ms:List Bool} (hl:ms.length=n) (h:∀ i,i<n→(mkd ms i↔p i)):ms=zbP n p:=
 zqR (by rw [hl,zam]) fun i hi=>by
   rw [zaH,h i (hl▸hi)]
   exact ⟨fun h=>⟨hl▸hi,h⟩,fun h=>h.2⟩
theorem zbD (h:∀ i,i<n→(p i↔q i)):zbP n p=zbP n q:=zcc zam fun i hi=>by rw [zaH,←h i hi];exact ⟨fun h=>h.2,fun h=>⟨hi,h⟩⟩
theorem zaT {i:Nat}:i∈zbn n p↔i<n∧p i:=by simp [zbn]
theorem zmn:zbn (n+1) p=zbn n p++(if @decide (p n) (Classical.propDecidable _) then [n] else []):=by
 simp only [zbn,List.range_succ,List.filter_append,List.filter_cons,List.filter_nil]
theorem zfc (h:p n):zbn (n+1) p=zbn n p++[n]:=by rw [zmn];simp [h]
theorem zfd (h:¬p n):zbn (n+1) p=zbn n p:=by rw [zmn];simp [h]
theorem za6:(zbn n p).length≤n:=Nat.le_trans (List.length_filter_le _ _) (by simp)
theorem zch {i:Nat}:(zhc p n).testBit i=true↔i<n∧p i:=by
 induction n with
 | zero=>simp [zhc]
 | succ n ih=>
   rw [zhc,Nat.testBit_or,Bool.or_eq_true,ih]
   by_cases hp:p n
   · simp only [hp,decide_true,if_true,Nat.testBit_two_pow,decide_eq_true_eq]
     constructor
     · rintro (⟨h1,h2⟩ | rfl)
       · exact ⟨by omega,h2⟩
       exact ⟨by omega,hp⟩
     rintro ⟨h1,h2⟩
     rcases Nat.lt_or_eq_of_le (Nat.lt_succ_iff.1 h1) with h | h
     · exact .inl ⟨h,h2⟩
     exact .inr h.symm
   simp only [hp,decide_false,Bool.false_eq_true,if_false,Nat.zero_testBit,or_false]
   constructor
   · rintro ⟨h1,h2⟩;exact ⟨by omega,h2⟩
   rintro ⟨h1,h2⟩
   rcases Nat.lt_or_eq_of_le (Nat.lt_succ_iff.1 h1) with h | h
   · exact ⟨h,h2⟩
   exact absurd (h▸h2) hp
theorem zjg:zhc p n<2^n:=by
 refine Nat.lt_pow_two_of_testBit _ fun i hi=>?_
 cases h:(zhc p n).testBit i
 · rfl
 have:=(zch.1 h).1;omega
theorem zfe {m:Nat} (h:∀ i,m.testBit i=true↔i<n∧p i):m=zhc p n:=
 Nat.eq_of_testBit_eq fun i=>by
   have h1:=h i
   rw [←zch] at h1
   cases e1:m.testBit i<;>cases e2:(zhc p n).testBit i<;>simp_all
theorem zdh (h:∀ i,i<n→(p i↔q i)):zhc p n=zhc q n:=zfe fun i=>by
 rw [zch]
 exact ⟨fun ⟨h1,h2⟩=>⟨h1,(h i h1).1 h2⟩,fun ⟨h1,h2⟩=>⟨h1,(h i h1).2 h2⟩⟩
end
end Go.Sh
namespace Go.Proofs.YtbnjpfjjmhodnaaGreat
open Go Go.Sh Go.Proofs
open Rep (rep)
def F187 (a0 a1:Value) (w:World) (R:VW):Prop:=
 NIL a0 <|
 rF 180 a0 0 w fun x8=>
 rF 28 x8 4 w fun x9=>
 rL 26 x9 w fun x10=>
 rX 26 x10 a1 w fun x12=>
 rL 77 x12 w fun x13=>
 oP (Instr.alloc 77 true (.tuple #[])) w fun x5 w=>
 oS 77 x5 x13 w fun w=>
 rF 77 x5 0 w fun x14=>
 rL 3 x14 w fun x15=>
 rB .eql 3 T0 U0 x15 (iV 9) w fun x17=>
 BR x17
 (R (Value.slice none 0 0) w)
 (rB .eql 3 T0 U0 x15 (iV 3) w fun x19=>
 BR x19
 (rF 77 x5 3 w fun x20=>
 rL 3 x20 w fun x21=>
 oP (Instr.buildSlice 25 1 #[(0,x21)]) w fun x22 w=>
 R x22 w)
 (rB .eql 3 T0 U0 x15 (iV 2) w fun x24=>
 BR x24
 (rF 77 x5 3 w fun x25=>
 rL 3 x25 w fun x26=>
 rA a1 (iV 1) w fun x28=>
 rB .neq 3 T0 T0 x26 x28 w fun x29=>
 BR x29
 (rA a1 (iV 1) w fun x31=>
 rF 77 x5 3 w fun x32=>
 rL 3 x32 w fun x33=>
 oP (Instr.buildSlice 25 2 #[(0,x31),(1,x33)]) w fun x34 w=>
 R x34 w)
 (rA a1 (iV 1) w fun x36=>
 oP (Instr.buildSlice 25 1 #[(0,x36)]) w fun x37 w=>
 R x37 w))
 (rA a1 (iV 1) w fun x36=>
 oP (Instr.buildSlice 25 1 #[(0,x36)]) w fun x37 w=>
 R x37 w)))
def cfg187:Cfg:=⟨extL,[],[],[],[],[],[]⟩
theorem F187_call {a0 a1:Value} {w:World} {R:VW} (h:F187 a0 a1 w R):cL 187 [a0,a1] w R:=co (g:=cfg187) Tryz.func187 (by kernel_rfl) (by kernel_rfl) (by kernel_rfl) h
def F244 (a0 a1:Value) (w:World) (R:VW):Prop:=
 oP (Instr.box 28 a0) w fun x2 w=>
 rF 28 x2 4 w fun x6=>
 rL 26 x6 w fun x7=>
 rX 26 x7 a1 w fun x9=>
 rL 77 x9 w fun x10=>
 oP (Instr.alloc 77 true (.tuple #[])) w fun x5 w=>
 oS 77 x5 x10 w fun w=>
 rF 77 x5 0 w fun x11=>
 rL 3 x11 w fun x12=>
 rB .eql 3 T0 U0 x12 (iV 2) w fun x14=>
 BR x14
 (rF 77 x5 3 w fun x15=>
 rL 3 x15 w fun x16=>
 rA a1 (iV 1) w fun x18=>
 rB .eql 3 T0 T0 x16 x18 w fun x19=>
 BR x19
 (rA a1 (iV 1) w fun x21=>
 oP (Instr.buildSlice 25 1 #[(0,x21)]) w fun x22 w=>
 R x22 w)
 (rA a1 (iV 1) w fun x24=>
 rF 77 x5 3 w fun x25=>
 rL 3 x25 w fun x26=>
 oP (Instr.buildSlice 25 2 #[(0,x24),(1,x26)]) w fun x27 w=>
 R x27 w))
 (rB .eql 3 T0 U0 x12 (iV 3) w fun x29=>
 BR x29
 (rF 77 x5 3 w fun x30=>
 rL 3 x30 w fun x31=>
 oP (Instr.buildSlice 25 1 #[(0,x31)]) w fun x32 w=>
 R x32 w)
 (rB .eql 3 T0 U0 x12 (iV 9) w fun x34=>
 BR x34
 (oP (Instr.buildSlice 25 0 #[]) w fun x35 w=>
 R x35 w)
 (rA a1 (iV 1) w fun x37=>
 oP (Instr.buildSlice 25 1 #[(0,x37)]) w fun x38 w=>
 R x38 w)))
def cfg244:Cfg:=⟨extL,[],[],[],[],[],[]⟩
theorem F244_call {a0 a1:Value} {w:World} {R:VW} (h:F244 a0 a1 w R):cL 244 [a0,a1] w R:=co (g:=cfg244) Tryz.func244 (by kernel_rfl) (by kernel_rfl) (by kernel_rfl) h
def zax (c:DCode) (i:Nat):List Nat:=
 if (zak c i).op=9 then [] else if (zak c i).op=3 then [(zak c i).to.toNat] else if (zak c i).op=2∧(zak c i).to≠(i:Int)+1 then [i+1,(zak c i).to.toNat] else [i+1]
theorem zcA {c:DCode} (hc:CodeR c) {i j:Nat} (hi:i<c.ins.length) (h:j∈zax c i):j<c.ins.length∧zar c j=zar c i:=by
 have h9:=zqO hc (a:=(i:Int)) (by omega) (by omega)
 have hto:=znj hc (a:=(i:Int)) (by omega) (by omega)
 simp only [Int.toNat_natCast] at h9 hto
 unfold zax at h
 split at h
 · cases h
 rename_i ho
 have h1:=h9 ho
 have e1:((i+1:Nat):Int)=(i:Int)+1:=by omega
 split at h
 · rename_i h3
   simp only [List.mem_cons,List.not_mem_nil,or_false] at h
   subst h
   have h2:=hto (.inr h3)
   rw [Int.toNat_of_nonneg h2.1]
   exact ⟨by omega,h2.2.2⟩
 split at h
 · rename_i h2
   simp only [List.mem_cons,List.not_mem_nil,or_false] at h
   rcases h with rfl | rfl
   · exact ⟨by omega,by rw [e1];exact h1.2⟩
   have h2:=hto (.inl h2.1)
   rw [Int.toNat_of_nonneg h2.1]
   exact ⟨by omega,h2.2.2⟩
 simp only [List.mem_cons,List.not_mem_nil,or_false] at h
 subst h
 exact ⟨by omega,by rw [e1];exact h1.2⟩
theorem zeO (c:DCode) (i:Nat):(zax c i).length≤2:=by
 unfold zax
 split
 · simp
 split
 · simp
 split<;>simp
section
variable {P:Program} {w:World} {K:Value→World→Prop}
def vsI (l:List Int):List Value:=l.map fun x=>.int .i64 x
theorem zmo {w:World}:∀ {l:List Int},(∀ x∈l,I64 x)→Cells [] w (vsI l) l
 | [],_=>⟨rfl,rfl⟩
 | x :: l,h=>⟨[],[],[.int .i64 x],vsI l,rfl,rfl,⟨rfl,rfl,h x (by simp)⟩,zmo fun y hy=>h y (by simp [hy])⟩
theorem ztM {l:List Int} {e:Nat} (hl:∀ x∈l,I64 x) (hm:l.length≤maxLen):Own w.heap.size (w.alloc (.cells (vsI l).toArray e)) (.slice (some ⟨w.heap.size,0,none⟩) l.length l.length) l:=by
 have hB:Blk w.heap.size e (w.alloc (.cells (vsI l).toArray e)) (vsI l):=heap_alloc_new w _
 refine ⟨[w.heap.size],⟨⟨_,⟨some ⟨w.heap.size,0,none⟩,l.length,[],vsI l,rfl,Nat.le_refl _,hm,zmo hl,.inr ⟨_,_,rfl,rfl,hB.range,?_⟩⟩,rfl⟩,by simp,fun i hi=>?_⟩,by simp⟩
 · exact (Array.getElem?_eq_some_iff.1 hB).1
 simp only [List.mem_cons,List.not_mem_nil,or_false] at hi
 subst hi
 exact ⟨_,_,hB⟩
theorem zj4 {t e:TypeId} {by_:Nat} {x y:Int} (ht:P.underlying t=some (.slice e)) (he:tyI P e=some (1,by_,false)) (hz:zcJ P e=some [.int .i64 0]) (hx:I64 x) (hy:I64 y)
   (k:∀ v w',Ext w w'→Own w.heap.size w' v [x,y]→K v w'):OP P (Instr.buildSlice t 2 #[(0,.int .i64 x),(1,.int .i64 y)]) w K:=by
 unfold zcJ at hz
 cases hi:P.info? e with
 | none=>simp [hi] at hz
 | some i=>
   simp only [hi] at hz
   obtain ⟨v,hv,hvc⟩:=Option.map_eq_some_iff.1 hz
   refine ⟨_,w.alloc (.cells (vsI [x,y]).toArray e),?_,k _ _ (zaZ w _) (ztM (l:=[x,y]) (e:=e) (by simp [hx,hy]) (by simp [maxLen]))⟩
   have hvc':v.cells=#[.int .i64 0]:=Array.ext' (by simpa using hvc)
   have e1:∀ n:Int,(Value.int .i64 n).cells=#[.int .i64 n]:=fun _=>rfl
   simp only [Instr.buildSlice,Sem.run_bind,run_underlying ht,Result.andThen_ok,zaE he]
   have e2:Array.range 2=#[0,1]:=by decide
   simp [zeroValue,typeInfo,hi,hv,newRow,Instr.fill,hvc',vsI,e1,e2]
end
theorem zvl:zcJ Tryz.prog 3=some [.int .i64 0]:=by kernel_rfl
theorem zjh {w W0:World} {b:Nat} {c:DCode} {i:Nat} (hA:At W0 b 0 c) (e0:Ext W0 w) (hc:CodeR c) (hi:i<c.ins.length) :
   CALL Tryz.prog 187 [.pointer (some ⟨b,0,none⟩),.int .i64 (i:Int)] w fun r w'=>Ext w w'∧Own w.heap.size w' r (zaI (zax c i)):=by
 refine F187_call ?_
 unfold F187
 have hil:=hc.f.ins
 have hto:=znj hc (a:=(i:Int)) (by omega) (by omega)
 simp only [Int.toNat_natCast] at hto
 refine NIL.mk rfl ?_
 refine zaa za5 ?_
 refine zaa zaG ?_
 refine zab zcO (zal hA) e0 fun v10 h10=>?_
 refine zad u26 zc6 h10 hi fun b12 o12 h12=>?_
 rw [zaF] at h12
 have hnx:zax c i=if (zak c i).op=9 then [] else if (zak c i).op=3 then [(zak c i).to.toNat] else if (zak c i).op=2∧(zak c i).to≠(i:Int)+1 then [i+1,(zak c i).to.toNat] else [i+1]:=rfl
 generalize zak c i=I at *
 refine zab zc6 h12 e0 fun v13 h13=>?_
 refine zce zpE rfl zc6 rfl h13 e0 fun w1 hx1 hA5 hV5=>?_
 refine zaa zbf ?_
 refine zac ty3 (zay hA5) (Ext.refl _) fun _=>?_
 refine zai ?_
 refine br (fun c9=>?_) (fun c9=>?_)
 · rw [hnx,if_pos c9]
   exact ⟨hx1,zkv rfl⟩
 rw [if_neg c9] at hnx
 refine zai ?_
 refine br (fun c3=>?_) (fun c3=>?_)
 · rw [if_pos c3] at hnx
   have ht:=hto (.inr c3)
   refine zaa zeg ?_
   refine zac ty3 (zbU hA5) (Ext.refl _) fun hI=>?_
   refine zbH (x:=I.to) u25 ty3 z3 (by decide) (zcg hI) fun v w2 hx2 hr=>?_
   refine ⟨hx1.trans hx2,?_⟩
   rw [hnx]
   have e:zaI [I.to.toNat]=[I.to]:=by simp [zaI,Int.toNat_of_nonneg ht.1]
   rw [e]
   have:=hx1.size
   exact hr.own.own.mono (by omega)
 rw [if_neg c3] at hnx
 have e1:zaI [i+1]=[((i+1:Nat):Int)]:=by simp [zaI]
 refine zai ?_
 refine br (fun c2=>?_) (fun c2=>?_)
 · have ht:=hto (.inl c2)
   refine zaa zeg ?_
   refine zac ty3 (zbU hA5) (Ext.refl _) fun hI=>?_
   refine zaf (by omega) ?_
   refine zaN ?_
   refine br (fun cn=>?_) (fun cn=>?_)
   · rw [if_pos ⟨c2,by omega⟩] at hnx
     refine zaf (by omega) ?_
     refine zaa zeg ?_
     refine zac ty3 (zbU hA5) (Ext.refl _) fun _=>?_
     refine zj4 u25 ty3 zvl (by unfold I64;omega) hI fun v w2 hx2 hr=>?_
     refine ⟨hx1.trans hx2,?_⟩
     have e:zaI [i+1,I.to.toNat]=[((i+1:Nat):Int),I.to]:=by simp [zaI,Int.toNat_of_nonneg ht.1]
     rw [hnx,e]
     have:=hx1.size
     exact hr.mono (by omega)
   rw [if_neg (fun h=>cn (by have:=h.2;omega))] at hnx
   refine zaf (by omega) ?_
   refine zbH (x:=((i+1:Nat):Int)) u25 ty3 z3 (by decide) (zcg (by unfold I64;omega)) fun v w2 hx2 hr=>?_
   refine ⟨hx1.trans hx2,?_⟩
   rw [hnx,e1]
   have:=hx1.size
   exact hr.own.own.mono (by omega)
 rw [if_neg (fun h=>c2 h.1)] at hnx
 refine zaf (by omega) ?_
 refine zbH (x:=((i+1:Nat):Int)) u25 ty3 z3 (by decide) (zcg (by unfold I64;omega)) fun v w2 hx2 hr=>?_
 refine ⟨hx1.trans hx2,?_⟩
 rw [hnx,e1]
 have:=hx1.size
 exact hr.own.own.mono (by omega)
theorem zhD {w W0:World} {v0:Value} {c:DCode} {i:Nat} (h0:Is W0 v0 c) (e0:Ext W0 w) (hc:CodeR c) (hi:i<c.ins.length) :
   CALL Tryz.prog 244 [v0,.int .i64 (i:Int)] w fun r w'=>Ext w w'∧Own w.heap.size w' r (zaI (zax c i)):=by
 refine F244_call ?_
 unfold F244
 have hil:=hc.f.ins
 have hto:=znj hc (a:=(i:Int)) (by omega) (by omega)
 simp only [Int.toNat_natCast] at hto
 refine zaV h0 e0 fun w0 hx0 hA=>?_
 refine zaa zaG ?_
 refine zab zcO (zal hA) (Ext.refl _) fun v10 h10=>?_
 refine zad u26 zc6 h10 hi fun b12 o12 h12=>?_
 rw [zaF] at h12
 have hnx:zax c i=if (zak c i).op=9 then [] else if (zak c i).op=3 then [(zak c i).to.toNat] else if (zak c i).op=2∧(zak c i).to≠(i:Int)+1 then [i+1,(zak c i).to.toNat] else [i+1]:=rfl
 generalize zak c i=I at *
 refine zab zc6 h12 (Ext.refl _) fun v13 h13=>?_
 refine zce zpE rfl zc6 rfl h13 (Ext.refl _) fun w1 hx1 hA5 hV5=>?_
 have hs0:=hx0.size
 have hs1:=hx1.size
 have hx01:=hx0.trans hx1
 have e1:zaI [i+1]=[((i+1:Nat):Int)]:=by simp [zaI]
 refine zaa zbf ?_
 refine zac ty3 (zay hA5) (Ext.refl _) fun _=>?_
 refine zai ?_
 refine br (fun c2=>?_) (fun c2=>?_)
 · have ht:=hto (.inl c2)
   rw [if_neg (by omega),if_neg (by omega)] at hnx
   refine zaa zeg ?_
   refine zac ty3 (zbU hA5) (Ext.refl _) fun hI=>?_
   refine zaf (by omega) ?_
   refine zai ?_
   refine br (fun cn=>?_) (fun cn=>?_)
   · rw [if_neg (fun h=>h.2 (by omega))] at hnx
     refine zaf (by omega) ?_
     refine zbH (x:=((i+1:Nat):Int)) u25 ty3 z3 (by decide) (zcg (by unfold I64;omega)) fun v w2 hx2 hr=>?_
     refine ⟨hx01.trans hx2,?_⟩
     rw [hnx,e1]
     exact hr.own.own.mono (by omega)
   rw [if_pos ⟨c2,by omega⟩] at hnx
   refine zaf (by omega) ?_
   refine zaa zeg ?_
   refine zac ty3 (zbU hA5) (Ext.refl _) fun _=>?_
   refine zj4 u25 ty3 zvl (by unfold I64;omega) hI fun v w2 hx2 hr=>?_
   refine ⟨hx01.trans hx2,?_⟩
   have e:zaI [i+1,I.to.toNat]=[((i+1:Nat):Int),I.to]:=by simp [zaI,Int.toNat_of_nonneg ht.1]
   rw [hnx,e]
   exact hr.mono (by omega)
 refine zai ?_
 refine br (fun c3=>?_) (fun c3=>?_)
 · rw [if_neg (by omega),if_pos c3] at hnx
   have ht:=hto (.inr c3)
   refine zaa zeg ?_
   refine zac ty3 (zbU hA5) (Ext.refl _) fun hI=>?_
   refine zbH (x:=I.to) u25 ty3 z3 (by decide) (zcg hI) fun v w2 hx2 hr=>?_
   refine ⟨hx01.trans hx2,?_⟩
   rw [hnx]
   have e:zaI [I.to.toNat]=[I.to]:=by simp [zaI,Int.toNat_of_nonneg ht.1]
   rw [e]
   exact hr.own.own.mono (by omega)
 refine zai ?_
 refine br (fun c9=>?_) (fun c9=>?_)
 · rw [if_pos c9] at hnx
   rw [hnx]
   refine zaP (α:=Int) u25 ty3 fun a w2 hx2 hr=>?_
   have hs2:=hx2.size
   exact ⟨hx01.trans hx2,hr.own.own.mono (by omega)⟩
 rw [if_neg c9,if_neg c3,if_neg (fun h=>c2 h.1)] at hnx
 refine zaf (by omega) ?_
 refine zbH (x:=((i+1:Nat):Int)) u25 ty3 z3 (by decide) (zcg (by unfold I64;omega)) fun v w2 hx2 hr=>?_
 refine ⟨hx01.trans hx2,?_⟩
 rw [hnx,e1]
 exact hr.own.own.mono (by omega)
def F302 (a0 a1:Value) (w:World) (R:VW):Prop:=
 oP (Instr.box 28 a0) w fun x2 w=>
 rF 28 x2 4 w fun x10=>
 rL 26 x10 w fun x11=>
 rN 26 3 x11 w fun x12=>
 oP (Instr.makeSlice 135 x12 x12) w fun x13 w=>
 oP (Instr.buildSlice 25 1 #[(0,a1)]) w fun x15 w=>
 LOOPI [6,7] [x15,(iV 0)] w fun u4 w next4=>
 rN 25 3 (u4 6) w fun x18=>
 rC (u4 7) x18 w fun x19=>
 BR x19
 ((fun w=>rL 28 x2 w fun x22=>
 rX 25 (u4 6) (u4 7) w fun x25=>
 rL 3 x25 w fun x26=>
 cL 244 [x22,x26] w fun x27 w=>
 LOOPI [6,9] [(u4 6),(iV 0)] w fun u8 w next8=>
 rN 25 3 x27 w fun x30=>
 rC (u8 9) x30 w fun x31=>
 BR x31
 (rX 25 x27 (u8 9) w fun x37=>
 rL 3 x37 w fun x38=>
 rX 135 x13 x38 w fun x39=>
 rL 4 x39 w fun x40=>
 rD (Op.unary .not x40) w fun x41=>
 BR x41
 (rX 25 x27 (u8 9) w fun x45=>
 rL 3 x45 w fun x46=>
 rX 135 x13 x46 w fun x47=>
 oS 4 x47 (Value.bool true) w fun w=>
 rX 25 x27 (u8 9) w fun x51=>
 rL 3 x51 w fun x52=>
 oP (Instr.buildSlice 25 1 #[(0,x52)]) w fun x53 w=>
 oP (Builtin.append_ #[25,25] 25 [(u8 6),x53].toArray) w fun x54 w=>
 rA (u8 9) (iV 1) w fun x33=>
 next8 [x54,x33] w)
 (rA (u8 9) (iV 1) w fun x33=>
 next8 [(u8 6),x33] w))
 (rA (u4 7) (iV 1) w fun x21=>
 next4 [(u8 6),x21] w)) (World.drew1 w))
 (R x13 w)
def cfg302:Cfg:=⟨extL,[],[(4,36028797018899392,[6,7]),(8,36028796750529088,[6,9])],[(6,[0,1,2,3,4,5,6],0)],[],[],[]⟩
theorem F302_call {a0 a1:Value} {w:World} {R:VW} (h:F302 a0 a1 w R):cL 302 [a0,a1] w R:=co (g:=cfg302) Tryz.func302 (by kernel_rfl) (by kernel_rfl) (by kernel_rfl) h
def F170 (a0 a1 a2:Value) (w:World) (R:VW):Prop:=
 oP (Instr.buildSlice 25 1 #[(0,a2)]) w fun x11 w=>
 LOOPI [6] [x11] w fun u1 w next1=>
 rN 25 3 (u1 6) w fun x13=>
 rB .gtr 3 T0 U0 x13 (iV 0) w fun x14=>
 BR x14
 (rN 25 3 (u1 6) w fun x17=>
 rB .sub 3 T0 U0 x17 (iV 1) w fun x18=>
 rX 25 (u1 6) x18 w fun x19=>
 rL 3 x19 w fun x20=>
 rN 25 3 (u1 6) w fun x23=>
 rB .sub 3 T0 U0 x23 (iV 1) w fun x24=>
 rD (Instr.sliceAt 25 (u1 6) none (some x24) none) w fun x25=>
 cL 187 [a0,x20] w fun x28 w=>
 rN 25 3 x28 w fun x29=>
 LOOPI [6,30] [x25,(iV 0)] w fun u5 w next5=>
 rC (u5 30) x29 w fun x31=>
 BR x31
 (rX 25 x28 (u5 30) w fun x32=>
 rL 3 x32 w fun x33=>
 rX 135 a1 x33 w fun x36=>
 rL 4 x36 w fun x37=>
 rD (Op.unary .not x37) w fun x38=>
 BR x38
 (rX 135 a1 x33 w fun x41=>
 oS 4 x41 (Value.bool true) w fun w=>
 oP (Instr.buildSlice 25 1 #[(0,x33)]) w fun x44 w=>
 oP (Builtin.append_ #[25,25] 25 [(u5 6),x44].toArray) w fun x45 w=>
 rA (u5 30) (iV 1) w fun x46=>
 next5 [x45,x46] w)
 (rA (u5 30) (iV 1) w fun x46=>
 next5 [(u5 6),x46] w))
 (next1 [(u5 6)] w))
 (R (Value.tuple #[]) w)
def cfg170:Cfg:=⟨extL,[],[(1,140737488351936,[6]),(5,140736414614080,[6,30])],[],[],[],[]⟩
theorem F170_call {a0 a1 a2:Value} {w:World} {R:VW} (h:F170 a0 a1 a2 w R):cL 170 [a0,a1,a2] w R:=co (g:=cfg170) Tryz.func170 (by kernel_rfl) (by kernel_rfl) (by kernel_rfl) h
section
variable {P:Program} {w w':World}
theorem zej {α:Type} [Rep α] [Flat α] {F:List Nat} {v:Value} {l:List α} (hm:Mine F w v l) (hl:l≠[]):∃ b o cap,v=.slice (some ⟨b,o,none⟩) l.length cap∧F=[b]:=by
 obtain ⟨⟨cs,⟨a,cap,Fi,xs,rfl,h1,h2,hc,h4⟩,rfl⟩,hn,hw⟩:=hm
 rcases h4 with ⟨h4,_⟩ | ⟨b,o,rfl,rfl,hr,hb⟩
 · exact absurd h4 hl
 have hFi:=Cells.flat (xs:=xs) hc
 subst hFi
 exact ⟨b,o,cap,rfl,rfl⟩
theorem za0 {α:Type} [Rep α] [Flat α] (h1:Rep.size α=1) {t by_ m n i:Nat} {l:List α} {y:α} {u:Value} {K:World→Prop} (ht:tyI P t=some (1,by_,Rep.agg α)) (hm:Mine [m] w (.slice (some ⟨m,0,none⟩) n n) l) (hl:l.length=n) (hi:i<n) (hu:Mine [] w u y)
   (k:∀ w',Chg [m] w w'→Mine [m] w' (.slice (some ⟨m,0,none⟩) n n) (l.set i y)→K w'):OPU P (Instr.storeAt t (.pointer (some ⟨m,i*1,none⟩)) u) w K:=by
 obtain ⟨b,a,cap,G,hv,hL⟩:=ztm hm (k:=i) (by omega)
 simp only [Value.slice.injEq,Option.some.injEq,Addr.mk.injEq,and_true] at hv
 obtain ⟨⟨rfl,rfl⟩,_⟩:=hv
 rw [h1,Nat.zero_add] at hL
 refine zgP (y':=y) (by rw [h1];exact ht) hL hu fun w8 F' hc8 hm8 hF8=>?_
 have hF9:F'=[m]:=by
   obtain ⟨b,o,cap,hv,hF2⟩:=zej hm8 (by intro e;have h:=congrArg List.length e;rw [List.length_set,hl] at h;simp only [List.length_nil] at h;omega)
   subst hF2
   have:=hF8 b (by simp)
   simpa using this
 subst hF9
 exact k w8 hc8 hm8
theorem zbv {α:Type} [Rep α] {t e by_ m n i:Nat} {K:Value→Prop} (h1:Rep.size α=1) (ht:P.underlying t=some (.slice e)) (he:tyI P e=some (1,by_,Rep.agg α)) (hi:i<n) (kk:K (.pointer (some ⟨m,i*1,none⟩))) :
   RD P (Instr.indexAt t (.slice (some ⟨m,0,none⟩) n n) (.int .i64 (i:Int))) w K:=ziA ht he hi kk
end
structure WI (w1 w:World) (m n lo hi:Nat) (tv:Value) (L:List Nat) (ms:List Bool):Prop where
 chg:ChgI m (m+1) w1 w
 row:RowI lo hi 3 w tv (zaI L)
 mks:Mine [m] w (.slice (some ⟨m,0,none⟩) n n) ms
 l0:w1.heap.size≤lo
 m1:m<lo
 h2:lo≤hi
 h3:hi≤w.heap.size
section
variable {w1 w w':World} {m n lo hi:Nat} {tv:Value} {L:List Nat} {ms:List Bool}
theorem WI.step (h:WI w1 w m n lo hi tv L ms) (hx:Ext w w'):WI w1 w' m n lo hi tv L ms:=
 ⟨h.chg.trans hx.toI,h.row.ext hx,h.mks.ext hx,h.l0,h.m1,h.h2,Nat.le_trans h.h3 hx.size⟩
theorem WI.push {tv':Value} {x:Nat} {lo' hi':Nat} (h:WI w1 w m n lo hi tv L ms) (hc:ChgI lo hi w w') (hr:RowI lo' hi' 3 w' tv' (zaI L++[(x:Int)])) (hd:lo'=lo∧hi'=hi∨lo'=w.heap.size∧hi'=w'.heap.size) :
   WI w1 w' m n lo' hi' tv' (L++[x]) ms:=by
 have hs:=hc.size
 have h1:=h.l0
 have h2:=h.h2
 have h3:=h.h3
 have h4:=h.chg.size
 have h5:=h.m1
 have hml:=h.mks.lt m (by simp)
 refine ⟨⟨hc.os.trans h.chg.os,hc.tape.trans h.chg.tape,hc.output.trans h.chg.output,Nat.le_trans h4 hs,fun b hb ho=>(hc.block b (Nat.lt_of_lt_of_le hb h4) (by omega)).trans (h.chg.block b hb ho)⟩,by rw [zb3];exact hr,h.mks.keep fun b hb=>?_,by omega,by omega,by omega,by omega⟩
 simp only [List.mem_cons,List.not_mem_nil,or_false] at hb
 subst hb
 exact hc.block b hml (by omega)
theorem WI.mark {ms':List Bool} (h:WI w1 w m n lo hi tv L ms) (hc:Chg [m] w w') (hm:Mine [m] w' (.slice (some ⟨m,0,none⟩) n n) ms'):WI w1 w' m n lo hi tv L ms':=by
 have hc':ChgI m (m+1) w w':=hc.toI fun b hb=>by simp only [List.mem_cons,List.not_mem_nil,or_false] at hb;omega
 have h5:=h.m1
 exact ⟨h.chg.trans hc',h.row.chg hc' (by omega),hm,h.l0,h5,h.h2,Nat.le_trans h.h3 hc'.size⟩
end
theorem zu7:zcJ Tryz.prog 4=some [.bool false]:=by kernel_rfl
theorem zcx {w:World} {x:Int} (lo hi:Nat) (h:I64 x):OwnI lo hi w (.int .i64 x) x:=⟨[],zcg h,by simp⟩
theorem zbl {w:World} {b:Bool}:Mine [] w (.bool b) b:=⟨⟨[.bool b],⟨rfl,rfl⟩,rfl⟩,List.nodup_nil,Wr.nil w⟩
theorem zh4 {w W0:World} {v0:Value} {c:DCode} {a:Nat} (h0:Is W0 v0 c) (e0:Ext W0 w) (hc:CodeR c) (ha:a<c.ins.length) :
   CALL Tryz.prog 302 [v0,.int .i64 (a:Int)] w fun r w'=>Ext w w'∧∃ m,r=.slice (some ⟨m,0,none⟩) c.ins.length c.ins.length∧w.heap.size≤m∧Mine [m] w' (.slice (some ⟨m,0,none⟩) c.ins.length c.ins.length) (zbP c.ins.length (RP (zax c) a)):=by
 refine F302_call ?_
 unfold F302
 have hil:=hc.f.ins
 have hnl:=fun {i j:Nat}=>zcA hc (i:=i) (j:=j)
 refine zaV h0 e0 fun w1 hx1 hA=>?_
 refine zaa zaG ?_
 refine zab zcO (zal hA) (Ext.refl _) fun v11 h11=>?_
 refine zag u26 h11 ?_
 generalize hn:c.ins.length=n at *
 refine zkZ (α:=Bool) zcX ty4 rfl rfl zu7 (by omega) (by omega) fun w2 hx2 hr2=>?_
 have hs1:=hx1.size
 have hs2:=hx2.size
 have hM2:Mine [w1.heap.size] w2 (.slice (some ⟨w1.heap.size,0,none⟩) n n) (List.replicate n (RepZ.zv:Bool)):=by
   obtain ⟨F,hM,hF⟩:=hr2.own
   obtain ⟨b,o,cap,hv,hF2⟩:=zej hM (by intro e;have:=congrArg List.length e;simp at this;omega)
   simp only [Value.slice.injEq,Option.some.injEq,Addr.mk.injEq,List.cons.injEq,and_true] at hv
   obtain ⟨⟨hb,ho⟩,_⟩:=hv
   rw [←hb] at hF2
   rwa [hF2] at hM
 have hzz:(List.replicate n (RepZ.zv:Bool))=List.replicate n false:=rfl
 rw [hzz] at hM2
 refine zbH (x:=(a:Int)) u25 ty3 z3 (by decide) (zcg (by unfold I64;omega)) fun v15 w3 hx3 hr3=>?_
 have hs3:=hx3.size
 generalize hm:w1.heap.size=m at *
 have hW3:WI w1 w3 m n w2.heap.size w3.heap.size v15 [a] (List.replicate n false):=⟨(hx2.trans hx3).toI,hr3,hM2.ext hx3,by omega,by have:=hM2.lt m (by simp);omega,hs3,Nat.le_refl _⟩
 refine zas (1+n) (fun h us w'=>∃ (tv:Value) (lo hi:Nat) (L:List Nat) (ms:List Bool),us=[tv,.int .i64 (h:Int)]∧h≤L.length∧WI w1 w' m n lo hi tv L ms∧SInv (zax c) n a (List.replicate n false) ms (L.drop h) h) 0 (Nat.zero_le _) ⟨v15,_,_,[a],_,rfl,by simp,hW3,SInv.start (by simp) ha⟩ ?_
 rintro h mk u w4 hkm ⟨tv,lo,hi,L,ms,hu,hhL,hW4,hS4⟩
 obtain ⟨hu1,hu2⟩:=zcC hu
 rw [hu1,hu2]
 have hb4:=hS4.bound
 rw [List.length_drop] at hb4
 refine zag u25 hW4.row.is ?_
 rw [zae]
 refine zah ?_
 refine br (fun hlt=>?_) (fun hge=>?_)
 case refine_2=>
   have hhe:h=L.length:=by omega
   rw [hhe,List.drop_length] at hS4
   have hfin:=hS4.fin fun i hi=>absurd hi zbz
   have hms:ms=zbP n (RP (zax c) a):=zcc hS4.len fun i hi=>by
     rw [hfin i]
     exact ⟨fun h=>h.resolve_left zbz,.inr⟩
   rw [←hms]
   have hx4:Ext w1 w4:=(Ext.refl w1).chgI hW4.chg (by omega)
   exact ⟨hx1.trans hx4,m,rfl,by omega,hW4.mks⟩
 have hh:h<L.length:=by omega
 have hx5:=zaj w4
 have hW5:=hW4.step hx5
 generalize World.drew1 w4=w5 at *
 have hxa:∀ {w:World} {lo hi tv L ms},WI w1 w m n lo hi tv L ms→Ext w1 w:=fun h=>(Ext.refl w1).chgI h.chg (by omega)
 refine zab zbm hA (hxa hW5) fun v22 h22=>?_
 refine zad u25 ty3 (i:=h) hW5.row.is (by rw [zae];exact hh) fun b1 o1 hA1=>?_
 rw [zaM] at hA1
 refine zac ty3 hA1 (Ext.refl _) fun _=>?_
 generalize hx:L[h]=x at *
 have hdr:L.drop h=x :: L.drop (h+1):=by rw [List.drop_eq_getElem_cons hh,hx]
 have hxn:x<n:=(hS4.tdo x (by rw [hdr];simp)).2
 refine (zhD h22 (hxa hW5) hc (by rw [hn];exact hxn)).mono ?_
 rintro v27 w6 ⟨hx6,ho6⟩
 have hW6:=hW5.step hx6
 have hI6:=hW5.h3
 have hm6:=hW5.mks.lt m (by simp)
 have hS6:SIn2 (zax c) n a (List.replicate n false) ms (L.drop (h+1)) h x 0:=hS4.pop (fun i=>by rw [hdr];simp [or_comm]) (by rw [hdr];simp)
 have hl2:=zeO c x
 refine zas (zax c x).length (fun q us w'=>∃ (tv:Value) (lo hi:Nat) (L:List Nat) (ms:List Bool),us=[tv,.int .i64 (q:Int)]∧q≤(zax c x).length∧h<L.length∧WI w1 w' m n lo hi tv L ms∧SIn2 (zax c) n a (List.replicate n false) ms (L.drop (h+1)) h x q∧OwnI w5.heap.size w6.heap.size w' v27 (zaI (zax c x))∧(hi≤w5.heap.size∨w6.heap.size≤lo)∧w6.heap.size≤w'.heap.size) 0 (Nat.zero_le _) ⟨tv,lo,hi,L,ms,rfl,Nat.zero_le _,hh,hW6,hS6,ho6.toI,.inl hI6,Nat.le_refl _⟩ ?_
 rintro q mk8 u8 w7 hkm8 ⟨tv7,lo7,hi7,L7,ms7,hu8,hql,hh7,hW7,hS7,ho7,hd7,hz7⟩
 obtain ⟨hu81,hu82⟩:=zcC hu8
 rw [hu81,hu82]
 refine zag u25 ho7.is ?_
 rw [zae]
 refine zah ?_
 refine br (fun hlt8=>?_) (fun hge8=>?_)
 case refine_2=>
   refine zaf (by omega) ?_
   exact ⟨mk-1,by omega,h+1,by omega,tv7,lo7,hi7,L7,ms7,rfl,by omega,hW7,hS7.done (by omega)⟩
 have hq:q<(zax c x).length:=by omega
 have hrd:∀ {w:World} {K:Value→Prop} (ho:OwnI w5.heap.size w6.heap.size w v27 (zaI (zax c x))) (k:K (.int .i64 (((zax c x)[q]:Nat):Int))),RD Tryz.prog (Instr.indexAt 25 v27 (.int .i64 (q:Int))) w fun x37=>RD Tryz.prog (Instr.loadAt 3 x37) w K:=fun ho k=>by
   refine zad u25 ty3 (i:=q) ho.is (by rw [zae];exact hq) fun b1 o1 hA1=>?_
   rw [zaM] at hA1
   exact zac ty3 hA1 (Ext.refl _) fun _=>k
 have hy:=hnl hxn (List.getElem_mem hq)
 refine hrd ho7 ?_
 have hlen7:=hS7.len
 refine zad zcX ty4 hW7.mks.is (by rw [hlen7];exact hy.1) fun b2 o2 hA2=>?_
 refine zaz ty4 hA2 (Ext.refl _) ?_
 refine zaJ ?_
 have hmk7:=zaO (ms:=ms7) (i:=(zax c x)[q]) (by rw [hlen7];exact hy.1)
 refine zbw (fun hf=>?_) (fun hf=>?_)
 · have hnm:¬mkd ms7 (zax c x)[q]:=by rw [hmk7];simpa using hf
   refine hrd ho7 ?_
   refine zbv (α:=Bool) rfl zcX ty4 hy.1 ?_
   refine za0 (α:=Bool) rfl ty4 hW7.mks hlen7 hy.1 zbl fun w8 hc8 hm8=>?_
   have hW8:=hW7.mark hc8 hm8
   have hc8':ChgI m (m+1) w7 w8:=hc8.toI fun b hb=>by simp only [List.mem_cons,List.not_mem_nil,or_false] at hb;omega
   have ho8:=ho7.chg hc8' (by omega)
   refine hrd ho8 ?_
   have hS8:=hS7.push hq hy.1 hnm
   generalize (zax c x)[q]=y at *
   have hLb:L7.length≤2+n:=by
     have h1:=hS7.cnt
     have h2:=zfF ms7
     rw [List.length_drop] at h1
     omega
   refine zd6 (x:=(y:Int)) u25 ty3 z3 zc3 (by decide) hW8.row (zcx 0 0 (by unfold I64;omega)) (by rw [zap,zae];omega) (by rw [zae];omega) fun v54 w9 lo9 hi9 hc9 hr9 hd9=>?_
   have hW9:=hW8.push hc9 hr9 hd9
   have hsz8:=hc8'.size
   have hsz7:=ho7.is
   refine zaf (by omega) ?_
   refine ⟨mk8-1,by omega,q+1,by omega,v54,lo9,hi9,L7++[y],_,rfl,by omega,by simp;omega,hW9,?_,ho8.chg hc9 (by omega),by omega,by have:=hc9.size;omega⟩
   rw [List.drop_append_of_le_length (by omega)]
   exact hS8
 have hnm:mkd ms7 (zax c x)[q]:=by rw [hmk7];simpa using hf
 refine zaf (by omega) ?_
 exact ⟨mk8-1,by omega,q+1,by omega,tv7,lo7,hi7,L7,ms7,rfl,by omega,hh7,hW7,hS7.skip hq hnm,ho7,hd7,hz7⟩
section
variable {P:Program} {w:World} {α:Type} [Rep α] [Flat α] {lo hi e:Nat} {v:Value} {l:List α}
theorem ztN {t e b o n cap k by_:Nat} {K:Value→Prop} (ht:P.underlying t=some (.slice e)) (he:tyI P e=some (Rep.size α,by_,Rep.agg α)) (hk:k≤n) (hn:n≤cap) (kk:K (.slice (some ⟨b,o,none⟩) k cap)) :
   RD P (Instr.sliceAt t (.slice (some ⟨b,o,none⟩) n cap) none (some (.int .i64 (k:Int))) none) w K:=by
 refine za3 (fun w' _=>?_) kk
 have hbd:(Instr.sliceBounds true n cap none (some (.int .i64 (k:Int))) none).run P w'=.ok (0,k,cap) w':=by
   have h5:(k:Int)≤(cap:Int):=by omega
   simp [Instr.sliceBounds,Instr.sliceBound,asIntOf,h5]
   intro h6
   omega
 simp only [Instr.sliceAt,Instr.slice,Sem.run_bind,run_underlying ht,Result.andThen_ok,hbd,zaE he]
 simp [Addr.add_mid]
theorem zsi (h:RowI lo hi e w v l) (hl:l≠[]) {k:Nat} (hk:k≤l.length):∃ g cap,v=.slice (some ⟨g,0,none⟩) l.length cap∧l.length≤cap∧RowI lo hi e w (.slice (some ⟨g,0,none⟩) k cap) (l.take k):=by
 rcases h with ⟨a,_,h⟩ | ⟨F,⟨xs,Fi,⟨hlen,ho⟩,hc,hF,hw⟩,hn,hb⟩
 · exact absurd h hl
 rcases ho with ⟨_,h0⟩ | ⟨g,cap,cur,rfl,_,hg,h1,h2,h3,h4⟩
 · exact absurd (List.eq_nil_of_length_eq_zero h0) hl
 refine ⟨g,cap,rfl,h1,.inr ⟨F,⟨xs.take (k*Rep.size α),[],⟨?_,.inr ⟨g,cap,cur,?_,Nat.zero_le _,hg,by rw [List.length_take];omega,h2,h3,?_⟩⟩,?_,?_,Wr.nil w⟩,hn,hb⟩⟩
 · rw [List.length_take,List.length_take,hlen,Nat.min_eq_left hk]
   exact Nat.min_eq_left (Nat.mul_le_mul_right _ hk)
 · rw [List.length_take,Nat.min_eq_left hk]
 · rw [List.length_take,Nat.min_eq_left hk,←h4,List.take_take,Nat.min_eq_left (Nat.mul_le_mul_right _ hk)]
 · have e1:l=l.take k++l.drop k:=by simp
   have hFi:=Cells.flat (xs:=xs) hc
   subst hFi
   rw [e1] at hc
   obtain ⟨F1,F2,x1,x2,hF12,hx12,c1,c2⟩:=Cells.split hc
   have hF1:=Cells.flat (xs:=x1) c1
   subst hF1
   have hl1:=Cells.len c1
   rw [List.length_take,Nat.min_eq_left hk] at hl1
   rw [hx12,List.take_left' hl1]
   exact c1
 have hFi:=Cells.flat (xs:=xs) hc
 subst hFi
 rw [hF];rfl
end
theorem znk {w W0:World} {v0:Value} {c:DCode} {a:Nat} (h0:Is W0 v0 c) (e0:Ext W0 w) (hc:CodeR c) (ha:a<c.ins.length) :
   CALL Tryz.prog 302 [v0,.int .i64 (a:Int)] w fun r w'=>Ext w w'∧Own w.heap.size w' r (zbP c.ins.length (RP (zax c) a)):=
 (zh4 h0 e0 hc ha).mono fun r w' ⟨hx,m,hr,hm,hM⟩=>⟨hx,[m],by rw [hr];exact hM,fun b hb=>by simp only [List.mem_cons,List.not_mem_nil,or_false] at hb;omega⟩
def KAt (W0 w:World) (b:Nat) (c:DCode):Prop:=∃ F cs,Rep.rep F W0 cs c∧w.rangeAt b 0 cs∧b<w.heap.size
theorem KAt.at {W0 w:World} {b:Nat} {c:DCode} (h:KAt W0 w b c) (hx:Ext W0 w):At w b 0 c:=by
 obtain ⟨F,cs,hr,hc,_⟩:=h
 exact ⟨F,cs,zbY hr hx,hc⟩
theorem KAt.keep {W0 w w':World} {b:Nat} {c:DCode} (h:KAt W0 w b c) (hb:w'.heap[b]?=w.heap[b]?) (hs:w.heap.size≤w'.heap.size):KAt W0 w' b c:=by
 obtain ⟨F,cs,hr,hc,hl⟩:=h
 exact ⟨F,cs,hr,zbo hc hb,by omega⟩
theorem KAt.lt {W0 w:World} {b:Nat} {c:DCode} (h:KAt W0 w b c):b<w.heap.size:=by obtain ⟨_,_,_,_,h⟩:=h;exact h
theorem zmp {w W0:World} {b m n a:Nat} {c:DCode} {ms0:List Bool} (hk:KAt W0 w b c) (e0:Ext W0 w) (hc:CodeR c) (hn:c.ins.length=n) (ha:a<n) (hM:Mine [m] w (.slice (some ⟨m,0,none⟩) n n) ms0) (hl:ms0.length=n) (h0:W0.heap.size≤m) (hb:b≠m)
   (hclo:∀ i,mkd ms0 i→i≠a→∀ j∈zax c i,mkd ms0 j) :
   CALL Tryz.prog 170 [.pointer (some ⟨b,0,none⟩),.slice (some ⟨m,0,none⟩) n n,.int .i64 (a:Int)] w fun r w'=>r=.tuple #[]∧ChgI m (m+1) w w'∧Mine [m] w' (.slice (some ⟨m,0,none⟩) n n) (zbP n fun i=>mkd ms0 i∨RP (zax c) a i):=by
 refine F170_call ?_
 unfold F170
 have hil:=hc.f.ins
 have hnl:=fun {i j:Nat}=>zcA hc (i:=i) (j:=j)
 rw [hn] at hnl hil
 refine zbH (x:=(a:Int)) u25 ty3 z3 (by decide) (zcg (by unfold I64;omega)) fun v11 w1 hx1 hr1=>?_
 have hW1:WI w w1 m n w.heap.size w1.heap.size v11 [a] ms0:=⟨hx1.toI,hr1,hM.ext hx1,Nat.le_refl _,hM.lt m (by simp),hx1.size,Nat.le_refl _⟩
 have hKA:∀ {w':World} {lo hi tv L ms},WI w w' m n lo hi tv L ms→At w' b 0 c:=fun h=>(hk.keep (h.chg.block b hk.lt (by omega)) h.chg.size).at (e0.chgI h.chg h0)
 refine zas (1+n) (fun h us w'=>∃ (tv:Value) (lo hi:Nat) (L:List Nat) (ms:List Bool),us=[tv]∧WI w w' m n lo hi tv L ms∧SInv (zax c) n a ms0 ms L h) 0 (Nat.zero_le _) ⟨v11,_,_,[a],_,rfl,hW1,SInv.start hl ha⟩ ?_
 rintro h mk u w4 hkm ⟨tv,lo,hi,L,ms,hu,hW4,hS4⟩
 simp only [List.map_cons,List.map_nil,List.cons.injEq,and_true] at hu
 rw [hu]
 have hb4:=hS4.bound
 refine zag u25 hW4.row.is ?_
 rw [zae]
 refine zc8 ?_
 refine br (fun hlt=>?_) (fun hge=>?_)
 case refine_2=>
   have hL0:L=[]:=List.eq_nil_of_length_eq_zero (by omega)
   rw [hL0] at hS4
   have hfin:=hS4.fin hclo
   have hms:ms=zbP n (fun i=>mkd ms0 i∨RP (zax c) a i):=zcc hS4.len fun i hi=>hfin i
   rw [←hms]
   exact ⟨rfl,hW4.chg,hW4.mks⟩
 obtain ⟨z,hz⟩:∃ z,L.length=z+1:=⟨L.length-1,by omega⟩
 have hzl:z<L.length:=by omega
 have hne:zaI L≠[]:=fun e=>by have:=congrArg List.length e;rw [zae,hz] at this;cases this
 refine zag u25 hW4.row.is ?_
 rw [zae]
 refine zbp (by unfold I64;omega) ?_
 have ez:(L.length:Int)-1=(z:Int):=by omega
 rw [ez]
 refine zad u25 ty3 (i:=z) hW4.row.is (by rw [zae];exact hzl) fun b1 o1 hA1=>?_
 rw [zaM] at hA1
 refine zac ty3 hA1 (Ext.refl _) fun _=>?_
 generalize hx:L[z]=x at *
 refine zag u25 hW4.row.is ?_
 rw [zae]
 refine zbp (by unfold I64;omega) ?_
 rw [ez]
 obtain ⟨g,cap,hv4,hcap,hr4⟩:=zsi hW4.row hne (k:=z) (by rw [zae];omega)
 rw [zae] at hv4 hcap
 rw [hv4]
 refine ztN (α:=Int) u25 ty3 (by omega) hcap ?_
 have hLz:L=L.take z++[x]:=by
   have:=List.take_succ_eq_append_getElem hzl
   rw [←hz,List.take_length,hx] at this
   exact this
 rw [←zqQ] at hr4
 have hW5:WI w w4 m n lo hi (.slice (some ⟨g,0,none⟩) z cap) (L.take z) ms:=⟨hW4.chg,hr4,hW4.mks,hW4.l0,hW4.m1,hW4.h2,hW4.h3⟩
 have hxn:x<n:=(hS4.tdo x (by rw [hLz];simp)).2
 refine (zjh (hKA hW5) (Ext.refl _) hc (by rw [hn];exact hxn)).mono ?_
 rintro v27 w6 ⟨hx6,ho6⟩
 have hW6:=hW5.step hx6
 have hI6:=hW5.h3
 have hm6:=hW5.mks.lt m (by simp)
 have hLm:∀ i,i∈L↔i∈L.take z∨i=x:=fun i=>by
   have:i∈L↔i∈L.take z++[x]:=by rw [←hLz]
   rw [this];simp
 have hS6:SIn2 (zax c) n a ms0 ms (L.take z) h x 0:=hS4.pop hLm (by rw [List.length_take];omega)
 have hl2:=zeO c x
 refine zag u25 ho6.is ?_
 rw [zae]
 refine zas (zax c x).length (fun q us w'=>∃ (tv:Value) (lo hi:Nat) (L:List Nat) (ms:List Bool),us=[tv,.int .i64 (q:Int)]∧q≤(zax c x).length∧WI w w' m n lo hi tv L ms∧SIn2 (zax c) n a ms0 ms L h x q∧OwnI w4.heap.size w6.heap.size w' v27 (zaI (zax c x))∧(hi≤w4.heap.size∨w6.heap.size≤lo)∧w6.heap.size≤w'.heap.size) 0 (Nat.zero_le _) ⟨_,lo,hi,_,ms,rfl,Nat.zero_le _,hW6,hS6,ho6.toI,.inl hI6,Nat.le_refl _⟩ ?_
 rintro q mk8 u8 w7 hkm8 ⟨tv7,lo7,hi7,L7,ms7,hu8,hql,hW7,hS7,ho7,hd7,hz7⟩
 obtain ⟨hu81,hu82⟩:=zcC hu8
 rw [hu81,hu82]
 refine zah ?_
 refine br (fun hlt8=>?_) (fun hge8=>?_)
 case refine_2=>
   exact ⟨mk-1,by omega,h+1,by omega,tv7,lo7,hi7,L7,ms7,rfl,hW7,hS7.done (by omega)⟩
 have hq:q<(zax c x).length:=by omega
 have hy:=hnl hxn (List.getElem_mem hq)
 refine zad u25 ty3 (i:=q) ho7.is (by rw [zae];exact hq) fun b3 o3 hA3=>?_
 rw [zaM] at hA3
 refine zac ty3 hA3 (Ext.refl _) fun _=>?_
 have hlen7:=hS7.len
 refine zad zcX ty4 hW7.mks.is (by rw [hlen7];exact hy.1) fun b2 o2 hA2=>?_
 refine zaz ty4 hA2 (Ext.refl _) ?_
 refine zaJ ?_
 have hmk7:=zaO (ms:=ms7) (i:=(zax c x)[q]) (by rw [hlen7];exact hy.1)
 refine zbw (fun hf=>?_) (fun hf=>?_)
 · have hnm:¬mkd ms7 (zax c x)[q]:=by rw [hmk7];simpa using hf
   refine zbv (α:=Bool) rfl zcX ty4 hy.1 ?_
   refine za0 (α:=Bool) rfl ty4 hW7.mks hlen7 hy.1 zbl fun w8 hc8 hm8=>?_
   have hW8:=hW7.mark hc8 hm8
   have hc8':ChgI m (m+1) w7 w8:=hc8.toI fun b hb=>by simp only [List.mem_cons,List.not_mem_nil,or_false] at hb;omega
   have ho8:=ho7.chg hc8' (by omega)
   have hS8:=hS7.push hq hy.1 hnm
   generalize (zax c x)[q]=y at *
   have hLb:L7.length≤2+n:=by
     have h1:=hS7.cnt
     have h2:=zfF ms7
     omega
   refine zd6 (x:=(y:Int)) u25 ty3 z3 zc3 (by decide) hW8.row (zcx 0 0 (by unfold I64;omega)) (by rw [zap,zae];omega) (by rw [zae];omega) fun v54 w9 lo9 hi9 hc9 hr9 hd9=>?_
   have hW9:=hW8.push hc9 hr9 hd9
   have hsz8:=hc8'.size
   refine zaf (by omega) ?_
   exact ⟨mk8-1,by omega,q+1,by omega,v54,lo9,hi9,L7++[y],_,rfl,by omega,hW9,hS8,ho8.chg hc9 (by omega),by omega,by have:=hc9.size;omega⟩
 have hnm:mkd ms7 (zax c x)[q]:=by rw [hmk7];simpa using hf
 refine zaf (by omega) ?_
 exact ⟨mk8-1,by omega,q+1,by omega,tv7,lo7,hi7,L7,ms7,rfl,by omega,hW7,hS7.skip hq hnm,ho7,hd7,hz7⟩
def F240 (a0:Value) (w:World) (R:VW):Prop:=
 oP (Instr.buildSlice 25 0 #[]) w fun x5 w=>
 LOOPI [3,4] [x5,(iV 0)] w fun u3 w next3=>
 rN 135 3 a0 w fun x8=>
 rC (u3 4) x8 w fun x9=>
 BR x9
 (rX 135 a0 (u3 4) w fun x14=>
 rL 4 x14 w fun x15=>
 BR x15
 (oP (Instr.buildSlice 25 1 #[(0,(u3 4))]) w fun x18 w=>
 oP (Builtin.append_ #[25,25] 25 [(u3 3),x18].toArray) w fun x19 w=>
 rA (u3 4) (iV 1) w fun x11=>
 next3 [x19,x11] w)
 (rA (u3 4) (iV 1) w fun x11=>
 next3 [(u3 3),x11] w))
 (R (u3 3) w)
def cfg240:Cfg:=⟨extL,[],[(3,1048536,[3,4])],[],[],[],[]⟩
theorem F240_call {a0:Value} {w:World} {R:VW} (h:F240 a0 w R):cL 240 [a0] w R:=co (g:=cfg240) Tryz.func240 (by kernel_rfl) (by kernel_rfl) (by kernel_rfl) h
def F306 (a0 a1:Value) (w:World) (R:VW):Prop:=
 oP (Instr.box 28 a0) w fun x2 w=>
 (fun w=>rL 28 x2 w fun x6=>
 rF 28 x2 3 w fun x7=>
 rL 25 x7 w fun x8=>
 rX 25 x8 a1 w fun x10=>
 rL 3 x10 w fun x11=>
 cL 302 [x6,x11] w fun x12 w=>
 rF 28 x2 3 w fun x14=>
 rL 25 x14 w fun x15=>
 rX 25 x15 a1 w fun x17=>
 rL 3 x17 w fun x18=>
 rX 135 x12 x18 w fun x19=>
 oS 4 x19 (Value.bool true) w fun w=>
 R x12 w) (World.drew1 w)
def cfg306:Cfg:=⟨extL,[],[],[(1,[0,1,2,3,4,5,6,7],0)],[],[],[]⟩
theorem F306_call {a0 a1:Value} {w:World} {R:VW} (h:F306 a0 a1 w R):cL 306 [a0,a1] w R:=co (g:=cfg306) Tryz.func306 (by kernel_rfl) (by kernel_rfl) (by kernel_rfl) h
def F289 (a0 a1 a2:Value) (w:World) (R:VW):Prop:=
 oP (Instr.box 28 a0) w fun x3 w=>
 rL 28 x3 w fun x10=>
 cL 306 [x10,a1] w fun x12 w=>
 rF 28 x3 2 w fun x13=>
 rL 24 x13 w fun x14=>
 rN 24 3 x14 w fun x15=>
 oP (Instr.makeSlice 135 x15 x15) w fun x16 w=>
 LOOPI [9] [(iV 0)] w fun u4 w next4=>
 rF 28 x3 4 w fun x18=>
 rL 26 x18 w fun x19=>
 rN 26 3 x19 w fun x20=>
 rC (u4 9) x20 w fun x21=>
 BR x21
 (rX 135 x12 (u4 9) w fun x26=>
 rL 4 x26 w fun x27=>
 BR x27
 (rF 28 x3 4 w fun x29=>
 rL 26 x29 w fun x30=>
 rX 26 x30 (u4 9) w fun x32=>
 rF 77 x32 0 w fun x33=>
 rL 3 x33 w fun x34=>
 rB .eql 3 T0 T0 x34 a2 w fun x36=>
 BR x36
 (rF 28 x3 4 w fun x39=>
 rL 26 x39 w fun x40=>
 rX 26 x40 (u4 9) w fun x42=>
 rF 77 x42 1 w fun x43=>
 rL 3 x43 w fun x44=>
 rX 135 x16 x44 w fun x45=>
 oS 4 x45 (Value.bool true) w fun w=>
 rA (u4 9) (iV 1) w fun x23=>
 next4 [x23] w)
 (rA (u4 9) (iV 1) w fun x23=>
 next4 [x23] w))
 (rA (u4 9) (iV 1) w fun x23=>
 next4 [x23] w))
 (cL 240 [x16] w fun x47 w=>
 R x47 w)
def cfg289:Cfg:=⟨extL,[],[(4,70368744047104,[9])],[],[],[],[]⟩
theorem F289_call {a0 a1 a2:Value} {w:World} {R:VW} (h:F289 a0 a1 a2 w R):cL 289 [a0,a1,a2] w R:=co (g:=cfg289) Tryz.func289 (by kernel_rfl) (by kernel_rfl) (by kernel_rfl) h
def zsj (ms:List Bool) (n:Nat):List Nat:=(List.range n).filter fun i=>ms.getD i false
theorem zg0 (ms:List Bool) (n:Nat):zsj ms (n+1)=zsj ms n++(if ms.getD n false then [n] else []):=by
 simp only [zsj,List.range_succ,List.filter_append,List.filter_cons,List.filter_nil]
theorem zop (ms:List Bool) (n:Nat):(zsj ms n).length≤n:=Nat.le_trans (List.length_filter_le _ _) (by simp)
theorem zfG (n:Nat) (p:Nat→Prop):zsj (zbP n p) n=zbn n p:=by
 refine List.filter_congr fun i hi=>?_
 have hi':=List.mem_range.1 hi
 have:=zaH (n:=n) (p:=p) (i:=i)
 unfold mkd at this
 by_cases h:p i
 · rw [this.2 ⟨hi',h⟩];simp [h]
 have h2:(zbP n p).getD i false≠true:=fun e=>h (this.1 e).2
 simp only [h,decide_false]
 cases hh:(zbP n p).getD i false
 · rfl
 exact absurd hh h2
theorem zek {w W0:World} {v0:Value} {ms:List Bool} (h0:Is W0 v0 ms) (e0:Ext W0 w) (hn:ms.length≤1000000) :
   CALL Tryz.prog 240 [v0] w fun r w'=>Ext w w'∧Own w.heap.size w' r (zaI (zsj ms ms.length)):=by
 refine F240_call ?_
 unfold F240
 refine zaP (α:=Int) u25 ty3 fun a w1 hx1 hr1=>?_
 have hs1:=hx1.size
 refine zas ms.length (fun k us w'=>∃ (v:Value),us=[v,.int .i64 (k:Int)]∧k≤ms.length∧Ext w w'∧RowI w.heap.size w'.heap.size 3 w' v (zaI (zsj ms k))) 0 (Nat.zero_le _) ⟨_,rfl,Nat.zero_le _,hx1,hr1.mono hs1 (Nat.le_refl _)⟩ ?_
 rintro k mk u w2 hkm ⟨v,hu,hkl,hx2,hr2⟩
 obtain ⟨hu1,hu2⟩:=zcC hu
 rw [hu1,hu2]
 refine zag zcX h0 ?_
 refine zah ?_
 refine br (fun hlt=>?_) (fun hge=>?_)
 case refine_2=>
   have:k=ms.length:=by omega
   rw [this] at hr2
   exact ⟨hx2,hr2.own.own⟩
 have hk:k<ms.length:=by omega
 have hs2:=hx2.size
 have hg:ms.getD k false=ms[k]:=by rw [List.getD_eq_getElem?_getD,List.getElem?_eq_getElem hk];rfl
 have hil:=zop ms k
 refine zad zcX ty4 h0 hk fun b2 o2 hA2=>?_
 refine zaz ty4 hA2 (e0.trans hx2) ?_
 refine zbw (fun hf=>?_) (fun hf=>?_)
 · refine zbV (lo2:=w2.heap.size) (hi2:=w2.heap.size) (x:=(k:Int)) u25 ty3 z3 zc3 (by decide) hr2 hs2 (zcx _ _ (by unfold I64;omega)) (Nat.le_refl _) hs2 (by rw [zap,zae];omega) (by rw [zae];omega) fun v54 w9 hc9 hr9=>?_
   refine zaf (by omega) ?_
   refine ⟨mk-1,by omega,k+1,by omega,v54,rfl,by omega,hx2.chgI hc9 (Nat.le_refl _),?_⟩
   rw [zg0,hg,hf,if_pos rfl,zb3]
   exact hr9
 refine zaf (by omega) ?_
 refine ⟨mk-1,by omega,k+1,by omega,v,rfl,by omega,hx2,?_⟩
 rw [zg0,hg,hf]
 simpa using hr2
def zaB (c:DCode) (p:Nat) (i:Nat):Prop:=i=(en c p).toNat∨RP (zax c) (en c p).toNat i
theorem zeP {w W0:World} {v0:Value} {c:DCode} {p:Nat} (h0:Is W0 v0 c) (e0:Ext W0 w) (hc:CodeR c) (hp:p<c.entry.length) :
   CALL Tryz.prog 306 [v0,.int .i64 (p:Int)] w fun r w'=>Ext w w'∧Own w.heap.size w' r (zbP c.ins.length (zaB c p)):=by
 refine F306_call ?_
 unfold F306
 have hen:=zqP hc hp
 refine zaV h0 e0 fun w1 hx1 hA=>?_
 have hx2:=zaj w1
 generalize World.drew1 w1=w2 at *
 have hs1:=hx1.size
 have hs2:=hx2.size
 obtain ⟨a,hae⟩:∃ a:Nat,en c p=(a:Int):=⟨(en c p).toNat,by omega⟩
 have hla:zaB c p=fun i=>i=a∨RP (zax c) a i:=by
   funext i;unfold zaB;rw [hae];rfl
 have ha:a<c.ins.length:=by omega
 rw [hla]
 refine zab zbm hA hx2 fun v6 h6=>?_
 refine zaa za1 ?_
 refine zab zcN (zaq hA) hx2 fun v8 h8=>?_
 refine zad u25 ty3 h8 hp fun b1 o1 hA1=>?_
 rw [zbh hp,hae] at hA1
 refine zac ty3 hA1 hx2 fun _=>?_
 refine (zh4 h6 hx2 hc ha).mono ?_
 rintro _ w3 ⟨hx3,m,rfl,hm,hM⟩
 have hs3:=hx3.size
 refine zaa za1 ?_
 refine zab zcN (zaq hA) (hx2.trans hx3) fun v15 h15=>?_
 refine zad u25 ty3 h15 hp fun b2 o2 hA2=>?_
 rw [zbh hp,hae] at hA2
 refine zac ty3 hA2 (hx2.trans hx3) fun _=>?_
 refine zbv (α:=Bool) rfl zcX ty4 ha ?_
 refine za0 (α:=Bool) rfl ty4 hM zam ha zbl fun w4 hc4 hm4=>?_
 have hset:(zbP c.ins.length (RP (zax c) a)).set a true=zbP c.ins.length (fun i=>i=a∨RP (zax c) a i):=zcc (by rw [List.length_set,zam]) fun i hi=>by
   rw [zcw (by rw [zam];exact ha),zaH]
   constructor
   · rintro (⟨_,h⟩ | h)
     · exact .inr h
     exact .inl h
   rintro (h | h)
   · exact .inr h
   exact .inl ⟨hi,h⟩
 rw [hset] at hm4
 have hc4':ChgI m (m+1) w3 w4:=hc4.toI fun b hb=>by simp only [List.mem_cons,List.not_mem_nil,or_false] at hb;omega
 exact ⟨((hx1.trans hx2).trans hx3).chgI hc4' (by omega),[m],hm4,fun b hb=>by simp only [List.mem_cons,List.not_mem_nil,or_false] at hb;omega⟩
theorem zdL {w:World} {n:Nat} {K:Value→World→Prop} (h0:0<n) (hn:n≤1000000)
   (k:∀ w',Ext w w'→Mine [w.heap.size] w' (.slice (some ⟨w.heap.size,0,none⟩) n n) (List.replicate n false)→K (.slice (some ⟨w.heap.size,0,none⟩) n n) w'):OP Tryz.prog (Instr.makeSlice 135 (.int .i64 (n:Int)) (.int .i64 (n:Int))) w K:=
 zkZ (α:=Bool) zcX ty4 rfl rfl zu7 (by omega) (by omega) fun w2 hx2 hr2=>by
   refine k w2 hx2 ?_
   obtain ⟨F,hM,hF⟩:=hr2.own
   obtain ⟨b,o,cap,hv,hF2⟩:=zej hM (by intro e;have:=congrArg List.length e;simp at this;omega)
   simp only [Value.slice.injEq,Option.some.injEq,Addr.mk.injEq,List.cons.injEq,and_true] at hv
   obtain ⟨⟨hb,ho⟩,_⟩:=hv
   rw [←hb] at hF2
   rw [hF2] at hM
   exact hM
theorem zdm (n:Nat) {p:Nat→Prop} (h:∀ i,¬p i):List.replicate n false=zbP n p:=
 zcc (by simp) fun i _=>⟨fun h=>absurd h zbz,fun hp=>absurd hp (h i)⟩
theorem zoq {n q:Nat} {p p':Nat→Prop} (hq:q<n) (h:∀ i,p' i↔p i∨i=q):(zbP n p).set q true=zbP n p':=
 zcc (by rw [List.length_set,zam]) fun i hi=>by
   rw [zcw (by rw [zam];exact hq),zaH,h]
   exact ⟨fun h=>h.imp (·.2) id,fun h=>h.imp (fun h=>⟨hi,h⟩) id⟩
def zil (c:DCode) (p:Nat) (op:Int) (q:Nat):Prop:=∃ i,i<c.ins.length∧zaB c p i∧(zak c i).op=op∧(zak c i).arg=(q:Int)
theorem zji {w W0:World} {v0:Value} {c:DCode} {p:Nat} {op:Int} (h0:Is W0 v0 c) (e0:Ext W0 w) (hc:CodeR c) (hp:p<c.entry.length) (hop:op=4∨op=5) :
   CALL Tryz.prog 289 [v0,.int .i64 (p:Int),.int .i64 op] w fun r w'=>Ext w w'∧Own w.heap.size w' r (zaI (zbn c.procs.length (zil c p op))):=by
 refine F289_call ?_
 unfold F289
 have hil:=hc.f.ins
 have h8:=hc.1.procs8
 refine zaV h0 e0 fun w1 hx1 hA=>?_
 refine zab zbm hA (Ext.refl _) fun v10 h10=>?_
 refine (zeP h10 (Ext.refl _) hc hp).mono ?_
 rintro v12 w2 ⟨hx2,ho2⟩
 refine zaa zbb ?_
 refine zab zcj (zat hA) hx2 fun v14 h14=>?_
 refine zag u24 h14 ?_
 have hs1:=hx1.size
 have hs2:=hx2.size
 refine zdL h8.2 (by omega) fun w3 hx3 hM3=>?_
 have hs3:=hx3.size
 have ho3:=ho2.toI.ext hx3
 have hm3:=hM3.lt _ (List.mem_singleton.2 rfl)
 have hx13:=hx2.trans hx3
 generalize hm:w2.heap.size=m at *
 rw [zdm c.procs.length (p:=fun q=>∃ i,i<0∧zaB c p i∧(zak c i).op=op∧(zak c i).arg=(q:Int)) (fun i ⟨j,h,_⟩=>by omega)] at hM3
 refine zas c.ins.length (fun k us w'=>us=[.int .i64 (k:Int)]∧k≤c.ins.length∧ChgI m (m+1) w3 w'∧Mine [m] w' (.slice (some ⟨m,0,none⟩) c.procs.length c.procs.length) (zbP c.procs.length fun q=>∃ i,i<k∧zaB c p i∧(zak c i).op=op∧(zak c i).arg=(q:Int))) 0 (Nat.zero_le _) ⟨rfl,Nat.zero_le _,ChgI.refl _,hM3⟩ ?_
 rintro k mk u w4 hkm ⟨hu,hkl,hc4,hM4⟩
 simp only [List.map_cons,List.map_nil,List.cons.injEq,and_true] at hu
 rw [hu]
 have hx4:Ext w1 w4:=hx13.chgI hc4 (by omega)
 have ho4:=ho3.chg hc4 (by omega)
 refine zaa zaG ?_
 refine zab zcO (zal hA) hx4 fun v19 h19=>?_
 refine zag u26 h19 ?_
 refine zah ?_
 refine br (fun hlt=>?_) (fun hge=>?_)
 case refine_2=>
   have hke:k=c.ins.length:=by omega
   rw [hke] at hM4
   refine (zek hM4.is (Ext.refl _) (by rw [zam];omega)).mono ?_
   rintro r w5 ⟨hx5,ho5⟩
   rw [zam,zfG] at ho5
   have hsz:=hx4.size
   exact ⟨(hx1.trans hx4).trans hx5,ho5.mono (by omega)⟩
 have hk:k<c.ins.length:=by omega
 have hno:¬(zaB c p k∧(zak c k).op=op)→(zbP c.procs.length fun q=>∃ i,i<k∧zaB c p i∧(zak c i).op=op∧(zak c i).arg=(q:Int))=zbP c.procs.length fun q=>∃ i,i<k+1∧zaB c p i∧(zak c i).op=op∧(zak c i).arg=(q:Int):=fun hn=>zbD fun q _=>by
   constructor
   · rintro ⟨i,h1,h2⟩
     exact ⟨i,by omega,h2⟩
   rintro ⟨i,h1,h2,h3,h4⟩
   by_cases h:i=k
   · subst h;exact absurd ⟨h2,h3⟩ hn
   exact ⟨i,by omega,h2,h3,h4⟩
 refine zad zcX ty4 (i:=k) ho4.is (by rw [zam];exact hk) fun b2 o2 hA2=>?_
 refine zaz ty4 hA2 (Ext.refl _) ?_
 have hmk:=zaH (n:=c.ins.length) (p:=zaB c p) (i:=k)
 rw [zaO (by rw [zam];exact hk)] at hmk
 refine zbw (fun hf=>?_) (fun hf=>?_)
 case refine_2=>
   refine zaf (by omega) ?_
   refine ⟨mk-1,by omega,k+1,by omega,rfl,by omega,hc4,?_⟩
   rw [←hno fun h=>by rw [hmk.2 ⟨hk,h.1⟩] at hf;cases hf]
   exact hM4
 have hlive:=(hmk.1 hf).2
 refine zaa zaG ?_
 refine zab zcO (zal hA) hx4 fun v30 h30=>?_
 refine zad u26 zc6 h30 hk fun b3 o3 hA3=>?_
 rw [zaF] at hA3
 refine zaa zbf ?_
 refine zac ty3 (zay hA3) hx4 fun _=>?_
 refine zai ?_
 refine br (fun ho=>?_) (fun ho=>?_)
 case refine_2=>
   refine zaf (by omega) ?_
   refine ⟨mk-1,by omega,k+1,by omega,rfl,by omega,hc4,?_⟩
   rw [←hno fun h=>ho h.2]
   exact hM4
 have harg:=(zgY hc hk).2.1
 unfold zbM at harg
 rw [if_neg (by omega),if_pos (by omega)] at harg
 obtain ⟨q,hq⟩:∃ q:Nat,(zak c k).arg=(q:Int):=⟨(zak c k).arg.toNat,by omega⟩
 have hql:q<c.procs.length:=by omega
 refine zaa zaG ?_
 refine zab zcO (zal hA) hx4 fun v40 h40=>?_
 refine zad u26 zc6 h40 hk fun b5 o5 hA5=>?_
 rw [zaF] at hA5
 refine zaa zbu ?_
 refine zac ty3 (zaC hA5) hx4 fun _=>?_
 rw [hq]
 refine zbv (α:=Bool) rfl zcX ty4 hql ?_
 refine za0 (α:=Bool) rfl ty4 hM4 zam hql zbl fun w5 hc5 hm5=>?_
 have hc5':ChgI m (m+1) w4 w5:=hc5.toI fun b hb=>by simp only [List.mem_cons,List.not_mem_nil,or_false] at hb;omega
 refine zaf (by omega) ?_
 refine ⟨mk-1,by omega,k+1,by omega,rfl,by omega,hc4.trans hc5',?_⟩
 rw [←zoq (p:=fun q=>∃ i,i<k∧zaB c p i∧(zak c i).op=op∧(zak c i).arg=(q:Int)) hql fun r=>?_]
 · exact hm5
 constructor
 · rintro ⟨i,h1,h2,h3,h4⟩
   by_cases h:i=k
   · subst h;right;omega
   exact .inl ⟨i,by omega,h2,h3,h4⟩
 rintro (⟨i,h1,h2⟩ | rfl)
 · exact ⟨i,by omega,h2⟩
 exact ⟨k,by omega,hlive,ho,hq⟩
end Go.Proofs.YtbnjpfjjmhodnaaGreat
namespace Go.Sh
def znl (m n:Nat):Nat:=Nat.bitwise (fun a b=>a&&!b) m n
theorem zff (m n i:Nat):(znl m n).testBit i=(m.testBit i&&!n.testBit i):=Nat.testBit_bitwise rfl m n i
theorem zla (m n:Nat):znl m n≤m:=Nat.le_of_testBit fun i h=>by rw [zff] at h;simp at h;exact h.1
section
variable {P:Program} {w:World} {K:Value→Prop} {t:TypeId} {x y:Operand}
theorem zd7 {m n:Nat} (hm:m<4611686018427387904) (hn:n<4611686018427387904) (k:K (.int .i64 ((m &&& n:Nat):Int))):RD P (bin .and t x y (.int .i64 (m:Int)) (.int .i64 (n:Int))) w K:=by
 have hlt:m &&& n≤m:=Nat.and_le_left
 refine za3 (fun w' _=>?_) k
 have e1:IntKind.i64.wrap ((m &&& n:Nat):Int)=((m &&& n:Nat):Int):=IntWalk.i64_in _ (by omega)
 have e2:((BitVec.ofInt 64 (m:Int)) &&& (BitVec.ofInt 64 (n:Int))).toNat=m &&& n:=by
   simp only [BitVec.toNat_and,BitVec.ofInt_natCast,BitVec.toNat_ofNat]
   rw [Nat.mod_eq_of_lt (by omega),Nat.mod_eq_of_lt (by omega)]
 show (do eqGuard .and t x y (.int .i64 (m:Int)) (.int .i64 (n:Int));binOp .and t (.int .i64 (m:Int)) (.int .i64 (n:Int)):Sem Value).run P w'=_
 simp only [eqGuard,binOp,Op.intBits]
 show Result.ok (Value.int .i64 (IntKind.i64.wrap (((BitVec.ofInt 64 (m:Int)) &&& (BitVec.ofInt 64 (n:Int))).toNat:Nat))) w'=_
 rw [e2,e1]
theorem zjj {m n:Nat} (hm:m<4611686018427387904) (hn:n<4611686018427387904) (k:K (.int .i64 ((znl m n:Nat):Int))):RD P (bin .andNot t x y (.int .i64 (m:Int)) (.int .i64 (n:Int))) w K:=by
 have hlt:znl m n≤m:=zla m n
 refine za3 (fun w' _=>?_) k
 have e1:IntKind.i64.wrap ((znl m n:Nat):Int)=((znl m n:Nat):Int):=IntWalk.i64_in _ (by omega)
 have e2:((BitVec.ofInt 64 (m:Int)) &&& ~~~(BitVec.ofInt 64 (n:Int))).toNat=znl m n:=by
   apply Nat.eq_of_testBit_eq
   intro i
   have hm64:m<2^64:=by omega
   have hn64:n<2^64:=by omega
   simp only [BitVec.testBit_toNat,BitVec.getLsbD_and,BitVec.getLsbD_not,BitVec.ofInt_natCast,BitVec.getLsbD_ofNat,zff]
   by_cases hi:i<64
   · simp [hi]
   have:m.testBit i=false:=Nat.testBit_lt_two_pow (Nat.lt_of_lt_of_le hm64 (Nat.pow_le_pow_right (by omega) (by omega)))
   simp [hi,this]
 show (do eqGuard .andNot t x y (.int .i64 (m:Int)) (.int .i64 (n:Int));binOp .andNot t (.int .i64 (m:Int)) (.int .i64 (n:Int)):Sem Value).run P w'=_
 simp only [eqGuard,binOp,Op.intBits]
 show Result.ok (Value.int .i64 (IntKind.i64.wrap (((BitVec.ofInt 64 (m:Int)) &&& ~~~(BitVec.ofInt 64 (n:Int))).toNat:Nat))) w'=_
 rw [e2,e1]
theorem zsY {m n:Nat} {ku:IntKind} (hm:m<4611686018427387904) (k:K (.int .i64 ((m >>> n:Nat):Int))):RD P (bin .shr t x y (.int .i64 (m:Int)) (.int ku (n:Int))) w K:=by
 refine za3 (fun w' _=>?_) k
 have e0:¬((n:Int)<0):=by omega
 have e1:(m:Int).fdiv (2^(min n 64))=((m >>> n:Nat):Int):=by
   rw [Nat.shiftRight_eq_div_pow]
   have h2:((2:Int)^(min n 64))=((2^(min n 64):Nat):Int):=by simp
   rw [h2,Int.fdiv_eq_ediv_of_nonneg _ (Int.natCast_nonneg _),←Int.natCast_ediv]
   by_cases h:n≤64
   · rw [Nat.min_eq_left h]
   rw [Nat.min_eq_right (by omega),Nat.div_eq_of_lt (by omega),Nat.div_eq_of_lt (Nat.lt_of_lt_of_le (by omega:m<2^64) (Nat.pow_le_pow_right (by omega) (by omega)))]
 show (do eqGuard .shr t x y (.int .i64 (m:Int)) (.int ku (n:Int));binOp .shr t (.int .i64 (m:Int)) (.int ku (n:Int)):Sem Value).run P w'=_
 simp only [eqGuard,binOp,Op.shift,e0,if_false,Int.toNat_natCast]
 show Result.ok (Value.int .i64 ((m:Int).fdiv (2^(min n 64)))) w'=_
 rw [e1]
end
def zds (m:Nat):Nat→List Int
 | 0=>[]
 | k+1=>if m.testBit k then zds m k++[(k:Int)] else zds m k
theorem zhE (m:Nat):∀ k,(zds m k).length≤k
 | 0=>Nat.le_refl _
 | k+1=>by
   have:=zhE m k
   rw [zds]
   split
   · simp;omega
   omega
theorem zjk {m k:Nat} (h:m<2^k):∀ {j:Nat},k≤j→zds m j=zds m k
 | 0,hj=>by rw [Nat.le_zero.1 hj]
 | j+1,hj=>by
   by_cases e:k=j+1
   · rw [e]
   rw [zds,if_neg,zjk h (by omega)]
   rw [Nat.testBit_lt_two_pow (Nat.lt_of_lt_of_le h (Nat.pow_le_pow_right (by omega) (by omega)))]
   simp
def zcd (m:Nat):List Int:=zds m 64
theorem zlb {m k:Nat} (h:m<2^k) (hk:k≤64):zcd m=zds m k:=zjk h hk
theorem zdT {m:Nat} {x:Int}:∀ {k:Nat},x∈zds m k↔∃ i,i<k∧x=(i:Int)∧m.testBit i=true
 | 0=>by simp [zds]
 | k+1=>by
   rw [zds]
   constructor
   · intro h
     split at h
     · rename_i hb
       rcases List.mem_append.1 h with h | h
       · obtain ⟨i,h1,h2,h3⟩:=zdT.1 h;exact ⟨i,by omega,h2,h3⟩
       simp at h;exact ⟨k,by omega,h,hb⟩
     obtain ⟨i,h1,h2,h3⟩:=zdT.1 h;exact ⟨i,by omega,h2,h3⟩
   rintro ⟨i,h1,h2,h3⟩
   by_cases e:i=k
   · subst e;rw [if_pos h3];simp [h2]
   have:=(zdT (m:=m) (x:=x) (k:=k)).2 ⟨i,by omega,h2,h3⟩
   split
   · simp [this]
   exact this
theorem ztO (m i:Nat):decide (((m >>> i &&& 1:Nat):Int)=1)=m.testBit i:=by
 have h:m >>> i &&& 1=(m.testBit i).toNat:=by
   rw [Nat.and_one_is_mod,Nat.testBit_eq_decide_div_mod_eq,Nat.shiftRight_eq_div_pow]
   rcases Nat.mod_two_eq_zero_or_one (m / 2^i) with h | h<;>simp [h]
 rw [h]
 cases m.testBit i<;>rfl
theorem zor {m i:Nat}:m >>> i=0↔m<2^i:=by
 rw [Nat.shiftRight_eq_div_pow,Nat.div_eq_zero_iff]
 have:¬(2^i=0):=by have:0<2^i:=Nat.pow_pos (by omega);omega
 simp [this]
end Go.Sh
namespace Go.Proofs.YtbnjpfjjmhodnaaGreat
open Go Go.Sh Go.Proofs
open Rep (rep)
def F117 (a0 a1:Value) (w:World) (R:VW):Prop:=
 rD (convert 3 97 a1) w fun x7=>
 rB .shr 3 T0 T0 a0 x7 w fun x8=>
 rB .and 3 T0 U0 x8 (iV 1) w fun x9=>
 rB .eql 3 T0 U0 x9 (iV 1) w fun x10=>
 R x10 w
def cfg117:Cfg:=⟨extL,[],[],[],[],[],[]⟩
theorem F117_call {a0 a1:Value} {w:World} {R:VW} (h:F117 a0 a1 w R):cL 117 [a0,a1] w R:=co (g:=cfg117) Tryz.func117 (by kernel_rfl) (by kernel_rfl) (by kernel_rfl) h
theorem zeQ {w:World} {m:Nat} {i:Nat}   (hm:m<4611686018427387904) (hi:i<4611686018427387904) :
   CALL Tryz.prog 117 [.int .i64 (m:Int),.int .i64 (i:Int)] w fun r w'=>Ext w w'∧(r=.bool (m.testBit i)):=by
 refine F117_call ?_
 unfold F117
 refine zdA (by kernel_rfl) u97 (by omega) ?_
 refine zsY (by omega) ?_
 refine zd7 (n:=1) (Nat.lt_of_le_of_lt (Nat.shiftRight_le m i) hm) (by omega) ?_
 refine zai ?_
 refine ⟨Ext.refl w,?_⟩
 rw [ztO]
def F97 (a0:Value) (w:World) (R:VW):Prop:=
 LOOPI [3,4] [(Value.slice none 0 0),(iV 0)] w fun u3 w next3=>
 rD (convert 3 97 (u3 4)) w fun x7=>
 rB .shr 3 T0 T0 a0 x7 w fun x8=>
 rB .neq 3 T0 U0 x8 (iV 0) w fun x9=>
 BR x9
 (cL 117 [a0,(u3 4)] w fun x14 w=>
 BR x14
 (oP (Instr.buildSlice 25 1 #[(0,(u3 4))]) w fun x17 w=>
 oP (Builtin.append_ #[25,25] 25 [(u3 3),x17].toArray) w fun x18 w=>
 rA (u3 4) (iV 1) w fun x11=>
 next3 [x18,x11] w)
 (rA (u3 4) (iV 1) w fun x11=>
 next3 [(u3 3),x11] w))
 (R (u3 3) w)
def cfg97:Cfg:=⟨extL,[],[(3,524280,[3,4])],[],[],[],[]⟩
theorem F97_call {a0:Value} {w:World} {R:VW} (h:F97 a0 w R):cL 97 [a0] w R:=co (g:=cfg97) Tryz.func97 (by kernel_rfl) (by kernel_rfl) (by kernel_rfl) h
theorem zdt {w:World} {m:Nat}   (hm:m<4611686018427387904) :
   CALL Tryz.prog 97 [.int .i64 (m:Int)] w fun r w'=>Ext w w'∧(Own w.heap.size w' r (zcd m)):=by
 refine F97_call ?_
 unfold F97
 refine zas (62) (fun k us w'=>∃ v:Value,us=[v,.int .i64 (k:Int)]∧Ext w w'∧(RowI w.heap.size w'.heap.size 3 w' v (zds m k))) (0) (by omega) ⟨_,rfl,Ext.refl w,zc0 _ _ _ _⟩ ?_
 rintro k m3 uu3 w1_ hk3 ⟨v3,hu,hx1_,hrow⟩
 have hs_hx1_:=hx1_.size
 obtain ⟨hu0,hu1⟩:=zcC hu
 try rw [hu0]
 try rw [hu1]
 try clear hu0 hu1
 have hrl:=zhE m k
 refine zdA (by kernel_rfl) u97 (by omega) ?_
 refine zsY (by omega) ?_
 refine zaN ?_
 refine br (fun c1=>?_) (fun c1=>?_)
 · have hk62:k<62:=by
     rcases Nat.lt_or_ge k 62 with h | h
     · exact h
     have h1:m<2^k:=Nat.lt_of_lt_of_le (show m<2^62 by omega) (Nat.pow_le_pow_right (by omega) h)
     exact absurd (by rw [zor.2 h1];rfl) c1
   refine (zeQ (by omega) (by omega)).mono ?_
   rintro _ w2_ ⟨hx2_,rfl⟩
   have hs_hx2_:=hx2_.size
   refine zbw (fun c2=>?_) (fun c2=>?_)
   · refine zbV (α:=Int) u25 ty3 z3 zc3 (by decide) (hrow.ext hx2_) (by omega) (zky (lo:=w2_.heap.size) (hi:=w2_.heap.size) (by first | assumption | (unfold I64 at *;omega))) (by omega) (by omega) (by rw [zap];omega) (by omega) fun v18 w3_ hc3_ o18=>?_
     have hs_hc3_:=hc3_.size
     refine zaf (by omega) ?_
     refine ⟨m3-1,by omega,k+1,by omega,_,rfl,(Ext.chgI (hx1_.trans hx2_) hc3_ (by omega)),?_⟩
     rw [zds,if_pos c2];exact o18
   refine zaf (by omega) ?_
   refine ⟨m3-1,by omega,k+1,by omega,_,rfl,(hx1_.trans hx2_),?_⟩
   rw [zds,if_neg (by simp [c2])];exact (hrow.ext hx2_).mono (by omega) (by omega)
 refine ⟨hx1_,?_⟩
 have h1:m >>> k=0:=by have:=Decidable.not_not.1 c1;omega
 rw [zlb (zor.1 h1) (by omega)]
 exact hrow.own.own
def F161 (a0:Value) (w:World) (R:VW):Prop:=
 rD (convert 3 97 a0) w fun x4=>
 rB .shl 3 U0 T0 (iV 1) x4 w fun x5=>
 R x5 w
def cfg161:Cfg:=⟨extL,[],[],[],[],[],[]⟩
theorem F161_call {a0:Value} {w:World} {R:VW} (h:F161 a0 w R):cL 161 [a0] w R:=co (g:=cfg161) Tryz.func161 (by kernel_rfl) (by kernel_rfl) (by kernel_rfl) h
theorem zfH {w:World} {i:Nat}   (hi:i<62) :
   CALL Tryz.prog 161 [.int .i64 (i:Int)] w fun r w'=>Ext w w'∧(r=.int .i64 ((2^i:Nat):Int)):=by
 refine F161_call ?_
 unfold F161
 refine zdA (by kernel_rfl) u97 (by omega) ?_
 refine zer (by omega) ?_
 refine ⟨Ext.refl w,?_⟩
 rfl
def F227 (a0:Value) (w:World) (R:VW):Prop:=
 cL 100 [a0,(iV 0),(iV 63)] w fun x4 w=>
 R x4 w
def cfg227:Cfg:=⟨extL,[],[],[],[],[],[]⟩
theorem F227_call {a0:Value} {w:World} {R:VW} (h:F227 a0 w R):cL 227 [a0] w R:=co (g:=cfg227) Tryz.func227 (by kernel_rfl) (by kernel_rfl) (by kernel_rfl) h
theorem zos {w:World} {a:Int}    :
   CALL Tryz.prog 227 [.int .i64 a] w fun r w'=>Ext w w'∧(r=.bool (decide (0≤a∧a≤63))):=by
 refine F227_call ?_
 unfold F227
 refine (zfT ).mono ?_
 rintro _ w1_ ⟨hx1_,rfl⟩
 refine ⟨hx1_,?_⟩
 rfl
def zuN (c:DCode) (s:DState) (t:Int):Nat→Nat→Int→Nat
 | 0,_,_=>0
 | n+1,m,u=>if zhC c s u<0 then 0 else if ow s (zhC c s u)=t then m ||| 2^(zhC c s u).toNat else zuN c s t n (m ||| 2^(zhC c s u).toNat) (ow s (zhC c s u))
def zuO (c:DCode) (s:DState) (t:Int):Nat:=zuN c s t s.stacks.length 0 t
theorem zsZ {m i:Nat} (hm:m<64) (hi:i<6):m ||| 2^i<64:=Nat.or_lt_two_pow (n:=6) hm (Nat.pow_lt_pow_right (by omega) hi)
def znm (c:DCode) (s:DState):Nat→Nat
 | 0=>0
 | k+1=>if zuO c s k≠0 then znm c s k ||| 2^(zhC c s k).toNat else znm c s k
def F235 (a0 a1:Value) (w:World) (R:VW):Prop:=
 cL 97 [a1] w fun x9 w=>
 rN 25 3 x9 w fun x10=>
 LOOPI [5,11] [(iV 0),(iV 0)] w fun u3 w next3=>
 rC (u3 11) x10 w fun x12=>
 BR x12
 (rX 25 x9 (u3 11) w fun x13=>
 rL 3 x13 w fun x14=>
 rX 25 a0 x14 w fun x18=>
 rL 3 x18 w fun x19=>
 rB .or 3 T0 T0 (u3 5) x19 w fun x20=>
 rA (u3 11) (iV 1) w fun x21=>
 next3 [x20,x21] w)
 (R (u3 5) w)
def cfg235:Cfg:=⟨extL,[],[(3,4192416,[5,11])],[],[],[],[]⟩
theorem F235_call {a0 a1:Value} {w:World} {R:VW} (h:F235 a0 a1 w R):cL 235 [a0,a1] w R:=co (g:=cfg235) Tryz.func235 (by kernel_rfl) (by kernel_rfl) (by kernel_rfl) h
def orL (sets:List Nat) (l:List Int):Nat:=l.foldl (fun a i=>a ||| sets.getD i.toNat 0) 0
theorem zsk (sets:List Nat) (l:List Int) (i:Int):orL sets (l++[i])=orL sets l ||| sets.getD i.toNat 0:=by simp [orL]
theorem zot {sets:List Nat} (hs:∀ x∈sets,x<256) (l:List Int):orL sets l<256:=by
 have key:∀ (l:List Int) (a:Nat),a<256→l.foldl (fun a i=>a ||| sets.getD i.toNat 0) a<256:=fun l=>by
   induction l with
   | nil=>exact fun a h=>h
   | cons i l ih=>
     intro a ha
     rw [List.foldl_cons]
     refine ih _ (Nat.or_lt_two_pow (n:=8) ha ?_)
     rw [List.getD_eq_getElem?_getD]
     cases h:sets[i.toNat]? with
     | none=>simp
     | some x=>exact hs x (List.mem_of_getElem? h)
 exact key l 0 (by omega)
theorem zf0 {w W0:World} {v0:Value} {sets:List Nat} {m:Nat} (h0:Is W0 v0 (zaI sets)) (e0:Ext W0 w) (hs:∀ x∈sets,x<256) (hl:sets.length≤8) (hm:m<2^sets.length) :
   CALL Tryz.prog 235 [v0,.int .i64 (m:Int)] w fun r w'=>Ext w w'∧r=.int .i64 (orL sets (zcd m):Nat):=by
 refine F235_call ?_
 unfold F235
 have h256:2^sets.length≤2^8:=Nat.pow_le_pow_right (by omega) hl
 refine (zdt (m:=m) (by omega)).mono ?_
 rintro v9 w1 ⟨hx1,ho1⟩
 have hbl:(zcd m).length≤64:=zhE m 64
 refine zag u25 ho1.is ?_
 refine zas (zcd m).length (fun k us w'=>us=[.int .i64 ((orL sets ((zcd m).take k):Nat):Int),.int .i64 (k:Int)]∧k≤(zcd m).length∧Ext w1 w') 0 (Nat.zero_le _) ⟨rfl,Nat.zero_le _,Ext.refl _⟩ ?_
 rintro k mk u w2 hkm ⟨hu,hkl,hx2⟩
 obtain ⟨hu1,hu2⟩:=zcC hu
 rw [hu1,hu2]
 refine zah ?_
 refine br (fun hlt=>?_) (fun hge=>?_)
 case refine_2=>
   have:k=(zcd m).length:=by omega
   rw [this,List.take_length]
   exact ⟨hx1.trans hx2,rfl⟩
 have hk:k<(zcd m).length:=by omega
 have hmem:(zcd m)[k]∈zcd m:=List.getElem_mem hk
 obtain ⟨i,hi1,hi2,hi3⟩:=zdT.1 hmem
 have hil:i<sets.length:=Decidable.byContradiction fun hc=>by
   have:=Nat.testBit_lt_two_pow (Nat.lt_of_lt_of_le hm (Nat.pow_le_pow_right (by omega) (by omega:sets.length≤i)))
   rw [this] at hi3;cases hi3
 refine zad u25 ty3 (i:=k) ho1.is hk fun b1 o1 hA1=>?_
 refine zac ty3 hA1 hx2 fun _=>?_
 rw [hi2]
 refine zad u25 ty3 (i:=i) h0 (by rw [zae];exact hil) fun b2 o2 hA2=>?_
 rw [zaM] at hA2
 refine zac ty3 hA2 ((e0.trans hx1).trans hx2) fun _=>?_
 have h1:=zot hs ((zcd m).take k)
 have h2:=hs sets[i] (List.getElem_mem hil)
 refine zge (by omega) (by omega) ?_
 refine zaf (by omega) ?_
 refine ⟨mk-1,by omega,k+1,by omega,?_,by omega,hx2⟩
 rw [List.take_succ_eq_append_getElem hk,zsk,hi2,Int.toNat_natCast,List.getD_eq_getElem?_getD,List.getElem?_eq_getElem hil]
 rfl
def F251 (a0 a1:Value) (w:World) (R:VW):Prop:=
 oP (Instr.box 28 a0) w fun x2 w=>
 rF 28 x2 2 w fun x10=>
 rL 24 x10 w fun x11=>
 rN 24 3 x11 w fun x12=>
 oP (Instr.makeSlice 135 x12 x12) w fun x13 w=>
 rX 135 x13 a1 w fun x16=>
 oS 4 x16 (Value.bool true) w fun w=>
 oP (Instr.buildSlice 25 1 #[(0,a1)]) w fun x18 w=>
 LOOPI [6,7] [x18,(iV 0)] w fun u5 w next5=>
 rN 25 3 (u5 6) w fun x21=>
 rC (u5 7) x21 w fun x22=>
 BR x22
 ((fun w=>rL 28 x2 w fun x25=>
 rX 25 (u5 6) (u5 7) w fun x28=>
 rL 3 x28 w fun x29=>
 cL 289 [x25,x29,(iV 4)] w fun x30 w=>
 LOOPI [6,9] [(u5 6),(iV 0)] w fun u9 w next9=>
 rN 25 3 x30 w fun x33=>
 rC (u9 9) x33 w fun x34=>
 BR x34
 (rX 25 x30 (u9 9) w fun x40=>
 rL 3 x40 w fun x41=>
 rX 135 x13 x41 w fun x42=>
 rL 4 x42 w fun x43=>
 rD (Op.unary .not x43) w fun x44=>
 BR x44
 (rX 25 x30 (u9 9) w fun x48=>
 rL 3 x48 w fun x49=>
 rX 135 x13 x49 w fun x50=>
 oS 4 x50 (Value.bool true) w fun w=>
 rX 25 x30 (u9 9) w fun x54=>
 rL 3 x54 w fun x55=>
 oP (Instr.buildSlice 25 1 #[(0,x55)]) w fun x56 w=>
 oP (Builtin.append_ #[25,25] 25 [(u9 6),x56].toArray) w fun x57 w=>
 rA (u9 9) (iV 1) w fun x36=>
 next9 [x57,x36] w)
 (rA (u9 9) (iV 1) w fun x36=>
 next9 [(u9 6),x36] w))
 (rA (u5 7) (iV 1) w fun x24=>
 next5 [(u9 6),x24] w)) (World.drew1 w))
 (R x13 w)
def cfg251:Cfg:=⟨extL,[],[(5,288230376151188416,[6,7]),(9,288230374004228672,[6,9])],[(7,[0,1,2,3,4,5,6],0)],[],[],[]⟩
theorem F251_call {a0 a1:Value} {w:World} {R:VW} (h:F251 a0 a1 w R):cL 251 [a0,a1] w R:=co (g:=cfg251) Tryz.func251 (by kernel_rfl) (by kernel_rfl) (by kernel_rfl) h
noncomputable def zjl (c:DCode) (p:Nat):List Nat:=zbn c.procs.length (zil c p 4)
theorem zfg {w W0:World} {v0:Value} {c:DCode} {a:Nat} (h0:Is W0 v0 c) (e0:Ext W0 w) (hc:CodeR c) (ha:a<c.procs.length) :
   CALL Tryz.prog 251 [v0,.int .i64 (a:Int)] w fun r w'=>Ext w w'∧∃ m,r=.slice (some ⟨m,0,none⟩) c.procs.length c.procs.length∧w.heap.size≤m∧Mine [m] w' (.slice (some ⟨m,0,none⟩) c.procs.length c.procs.length) (zbP c.procs.length fun i=>i=a∨RP (zjl c) a i):=by
 refine F251_call ?_
 unfold F251
 have h8:=hc.1.procs8
 have hep:=hc.2.1.1
 have hcn:∀ x,zjl c x=zbn c.procs.length (zil c x 4):=fun _=>rfl
 refine zaV h0 e0 fun w1 hx1 hA=>?_
 refine zaa zbb ?_
 refine zab zcj (zat hA) (Ext.refl _) fun v11 h11=>?_
 refine zag u24 h11 ?_
 generalize hn:c.procs.length=n at *
 have hnl:∀ {i j:Nat},i<n→j∈zjl c i→j<n∧True:=fun {i j} _ hj=>by rw [hcn] at hj;exact ⟨(zaT.1 hj).1,trivial⟩
 have hnxl:∀ x,(zjl c x).length≤n:=fun x=>by rw [hcn];exact za6
 refine zdL h8.2 (by omega) fun w2 hx2 hM2=>?_
 have hs1:=hx1.size
 have hs2:=hx2.size
 refine zbv (α:=Bool) rfl zcX ty4 ha ?_
 refine za0 (α:=Bool) rfl ty4 hM2 (by simp) ha zbl fun w2b hc2 hM2b=>?_
 have hc2':ChgI w1.heap.size (w1.heap.size+1) w2 w2b:=hc2.toI fun b hb=>by simp only [List.mem_cons,List.not_mem_nil,or_false] at hb;omega
 have hs2b:=hc2'.size
 have hM0l:((List.replicate n false).set a true).length=n:=by simp
 have hM0:∀ i,mkd ((List.replicate n false).set a true) i↔i=a:=fun i=>by
   rw [zcw (by simp;exact ha)]
   exact ⟨fun h=>h.resolve_left zbz,.inr⟩
 generalize (List.replicate n false).set a true=M0 at *
 refine zbH (x:=(a:Int)) u25 ty3 z3 (by decide) (zcg (by unfold I64;omega)) fun v15 w3 hx3 hr3=>?_
 have hs3:=hx3.size
 generalize hm:w1.heap.size=m at *
 have hW3:WI w1 w3 m n w2b.heap.size w3.heap.size v15 [a] M0:=⟨(hx2.toI.trans hc2').trans hx3.toI,hr3,hM2b.ext hx3,by omega,by have:=hM2b.lt m (by simp);omega,hs3,Nat.le_refl _⟩
 generalize zjl c=nx at *
 refine zas (1+n) (fun h us w'=>∃ (tv:Value) (lo hi:Nat) (L:List Nat) (ms:List Bool),us=[tv,.int .i64 (h:Int)]∧h≤L.length∧WI w1 w' m n lo hi tv L ms∧SInv nx n a M0 ms (L.drop h) h) 0 (Nat.zero_le _) ⟨v15,_,_,[a],_,rfl,by simp,hW3,SInv.start hM0l ha⟩ ?_
 rintro h mk u w4 hkm ⟨tv,lo,hi,L,ms,hu,hhL,hW4,hS4⟩
 obtain ⟨hu1,hu2⟩:=zcC hu
 rw [hu1,hu2]
 have hb4:=hS4.bound
 rw [List.length_drop] at hb4
 refine zag u25 hW4.row.is ?_
 rw [zae]
 refine zah ?_
 refine br (fun hlt=>?_) (fun hge=>?_)
 case refine_2=>
   have hhe:h=L.length:=by omega
   rw [hhe,List.drop_length] at hS4
   have hfin:=hS4.fin fun i hi hne=>absurd ((hM0 i).1 hi) hne
   have hms:ms=zbP n (fun i=>i=a∨RP nx a i):=zcc hS4.len fun i hi=>by rw [hfin i,hM0]
   rw [←hms]
   have hx4:Ext w1 w4:=(Ext.refl w1).chgI hW4.chg (by omega)
   exact ⟨hx1.trans hx4,m,rfl,by omega,hW4.mks⟩
 have hh:h<L.length:=by omega
 have hx5:=zaj w4
 have hW5:=hW4.step hx5
 generalize World.drew1 w4=w5 at *
 have hxa:∀ {w:World} {lo hi tv L ms},WI w1 w m n lo hi tv L ms→Ext w1 w:=fun h=>(Ext.refl w1).chgI h.chg (by omega)
 refine zab zbm hA (hxa hW5) fun v22 h22=>?_
 refine zad u25 ty3 (i:=h) hW5.row.is (by rw [zae];exact hh) fun b1 o1 hA1=>?_
 rw [zaM] at hA1
 refine zac ty3 hA1 (Ext.refl _) fun _=>?_
 generalize hx:L[h]=x at *
 have hdr:L.drop h=x :: L.drop (h+1):=by rw [List.drop_eq_getElem_cons hh,hx]
 have hxn:x<n:=(hS4.tdo x (by rw [hdr];simp)).2
 refine (zji h22 (hxa hW5) hc (by omega) (.inl rfl)).mono ?_
 rintro v27 w6 ⟨hx6,ho6⟩
 rw [hn,←hcn] at ho6
 have hW6:=hW5.step hx6
 have hI6:=hW5.h3
 have hm6:=hW5.mks.lt m (by simp)
 have hS6:SIn2 nx n a M0 ms (L.drop (h+1)) h x 0:=hS4.pop (fun i=>by rw [hdr];simp [or_comm]) (by rw [hdr];simp)
 have hl2:=hnxl x
 refine zas (nx x).length (fun q us w'=>∃ (tv:Value) (lo hi:Nat) (L:List Nat) (ms:List Bool),us=[tv,.int .i64 (q:Int)]∧q≤(nx x).length∧h<L.length∧WI w1 w' m n lo hi tv L ms∧SIn2 nx n a M0 ms (L.drop (h+1)) h x q∧OwnI w5.heap.size w6.heap.size w' v27 (zaI (nx x))∧(hi≤w5.heap.size∨w6.heap.size≤lo)∧w6.heap.size≤w'.heap.size) 0 (Nat.zero_le _) ⟨tv,lo,hi,L,ms,rfl,Nat.zero_le _,hh,hW6,hS6,ho6.toI,.inl hI6,Nat.le_refl _⟩ ?_
 rintro q mk8 u8 w7 hkm8 ⟨tv7,lo7,hi7,L7,ms7,hu8,hql,hh7,hW7,hS7,ho7,hd7,hz7⟩
 obtain ⟨hu81,hu82⟩:=zcC hu8
 rw [hu81,hu82]
 refine zag u25 ho7.is ?_
 rw [zae]
 refine zah ?_
 refine br (fun hlt8=>?_) (fun hge8=>?_)
 case refine_2=>
   refine zaf (by omega) ?_
   exact ⟨mk-1,by omega,h+1,by omega,tv7,lo7,hi7,L7,ms7,rfl,by omega,hW7,hS7.done (by omega)⟩
 have hq:q<(nx x).length:=by omega
 have hrd:∀ {w:World} {K:Value→Prop} (ho:OwnI w5.heap.size w6.heap.size w v27 (zaI (nx x))) (k:K (.int .i64 (((nx x)[q]:Nat):Int))),RD Tryz.prog (Instr.indexAt 25 v27 (.int .i64 (q:Int))) w fun x37=>RD Tryz.prog (Instr.loadAt 3 x37) w K:=fun ho k=>by
   refine zad u25 ty3 (i:=q) ho.is (by rw [zae];exact hq) fun b1 o1 hA1=>?_
   rw [zaM] at hA1
   exact zac ty3 hA1 (Ext.refl _) fun _=>k
 have hy:=hnl hxn (List.getElem_mem hq)
 refine hrd ho7 ?_
 have hlen7:=hS7.len
 refine zad zcX ty4 hW7.mks.is (by rw [hlen7];exact hy.1) fun b2 o2 hA2=>?_
 refine zaz ty4 hA2 (Ext.refl _) ?_
 refine zaJ ?_
 have hmk7:=zaO (ms:=ms7) (i:=(nx x)[q]) (by rw [hlen7];exact hy.1)
 refine zbw (fun hf=>?_) (fun hf=>?_)
 · have hnm:¬mkd ms7 (nx x)[q]:=by rw [hmk7];simpa using hf
   refine hrd ho7 ?_
   refine zbv (α:=Bool) rfl zcX ty4 hy.1 ?_
   refine za0 (α:=Bool) rfl ty4 hW7.mks hlen7 hy.1 zbl fun w8 hc8 hm8=>?_
   have hW8:=hW7.mark hc8 hm8
   have hc8':ChgI m (m+1) w7 w8:=hc8.toI fun b hb=>by simp only [List.mem_cons,List.not_mem_nil,or_false] at hb;omega
   have ho8:=ho7.chg hc8' (by omega)
   refine hrd ho8 ?_
   have hS8:=hS7.push hq hy.1 hnm
   generalize (nx x)[q]=y at *
   have hLb:L7.length≤2+n:=by
     have h1:=hS7.cnt
     have h2:=zfF ms7
     rw [List.length_drop] at h1
     omega
   refine zd6 (x:=(y:Int)) u25 ty3 z3 zc3 (by decide) hW8.row (zcx 0 0 (by unfold I64;omega)) (by rw [zap,zae];omega) (by rw [zae];omega) fun v54 w9 lo9 hi9 hc9 hr9 hd9=>?_
   have hW9:=hW8.push hc9 hr9 hd9
   have hsz8:=hc8'.size
   have hsz7:=ho7.is
   refine zaf (by omega) ?_
   refine ⟨mk8-1,by omega,q+1,by omega,v54,lo9,hi9,L7++[y],_,rfl,by omega,by simp;omega,hW9,?_,ho8.chg hc9 (by omega),by omega,by have:=hc9.size;omega⟩
   rw [List.drop_append_of_le_length (by omega)]
   exact hS8
 have hnm:mkd ms7 (nx x)[q]:=by rw [hmk7];simpa using hf
 refine zaf (by omega) ?_
 exact ⟨mk8-1,by omega,q+1,by omega,tv7,lo7,hi7,L7,ms7,rfl,by omega,hh7,hW7,hS7.skip hq hnm,ho7,hd7,hz7⟩
noncomputable def m6 (p:Nat→Prop):Nat:=zhc p 6
theorem zou {p:Nat→Prop} {l:Nat}:(m6 p).testBit l=true↔l<6∧p l:=zch
theorem zlc {p:Nat→Prop}:m6 p<64:=zjg (n:=6)
theorem zhF {m l:Nat} (h:m<64) (hb:m.testBit l=true):l<6:=Decidable.byContradiction fun hc=>by
 have:=Nat.testBit_lt_two_pow (Nat.lt_of_lt_of_le (show m<2^6 from h) (Nat.pow_le_pow_right (by omega) (by omega:6≤l)))
 rw [this] at hb;cases hb
theorem zqS {m:Nat} {p:Nat→Prop} (h:m<64) (hb:∀ l,l<6→(m.testBit l=true↔p l)):m=m6 p:=
 zfe fun l=>⟨fun e=>⟨zhF h e,(hb l (zhF h e)).1 e⟩,fun e=>(hb l e.1).2 e.2⟩
theorem zov {p q:Nat→Prop} (h:∀ l,l<6→(p l↔q l)):m6 p=m6 q:=zdh h
theorem zeR {m l:Nat} (h:¬m.testBit l=false):m.testBit l=true:=by simpa using h
def zaw (l:List Nat) (i:Nat):Nat:=l.getD i 0
theorem zaU {l:List Nat} {i:Nat} (h:i<l.length):l[i]=zaw l i:=by unfold zaw;rw [List.getD_eq_getElem?_getD,List.getElem?_eq_getElem h];rfl
theorem zbF {l:List Nat} {i j v:Nat} (hi:i<l.length):zaw (l.set i v) j=if i=j then v else zaw l j:=by
 unfold zaw
 rw [List.getD_eq_getElem?_getD,List.getD_eq_getElem?_getD,List.getElem?_set]
 by_cases h:i=j
 · subst h;simp [hi]
 simp [h]
theorem zhG:∀ {l:List Nat} {i v:Nat},i<l.length→(l.set i v).sum+zaw l i=l.sum+v
 | x :: l,0,v,_=>by simp [zaw];omega
 | x :: l,i+1,v,h=>by
   have:=zhG (l:=l) (i:=i) (v:=v) (by simpa using h)
   simp only [zaw,List.set_cons_succ,List.sum_cons,List.getD_cons_succ] at this ⊢
   omega
theorem zfh (l:List Nat) (i v:Nat):zaI (l.set i v)=(zaI l).set i (v:Int):=by simp [zaI,List.map_set]
theorem zuP {l:List Nat} {b:Nat} (h:∀ x∈l,x≤b):l.sum≤l.length*b:=by
 induction l with
 | nil=>simp
 | cons x l ih=>
   have h1:=ih fun y hy=>h y (by simp [hy])
   have h2:=h x (by simp)
   rw [List.sum_cons,List.length_cons,Nat.add_mul];omega
theorem zld {l:List Nat} {i:Nat} (h:i<l.length):zaw l i∈l:=by rw [←zaU h];exact List.getElem_mem h
theorem zaK {l:List Nat} {i:Nat} (h:i<(zaI l).length):(zaI l)[i]=(zaw l i:Int):=by rw [zaM,zaU]
def eN (c:DCode) (p:Nat):Nat:=(en c p).toNat
def zN (c:DCode) (p:Nat):Nat:=(zdk c p-1).toNat
def agN (c:DCode) (i:Nat):Nat:=(zak c i).arg.toNat
theorem zfp {c:DCode} (hc:CodeR c) {p:Nat} (hp:p<c.entry.length):en c p=(eN c p:Int)∧eN c p<c.ins.length∧zar c (eN c p)=p:=by
 have h:=zqP hc hp
 unfold eN
 rw [Int.toNat_of_nonneg h.1]
 exact ⟨rfl,by omega,h.2.2⟩
theorem zjE {c:DCode} (hc:CodeR c) {p:Nat} (hp:p<c.entry.length):zdk c p=(zN c p:Int)+1∧eN c p≤zN c p∧zN c p<c.ins.length:=by
 have h1:=hc.f.lt p hp
 have h2:=hc.f.nonneg hp
 have h4:=hc.f.lt p hp
 have h5:zdk c p≤c.ins.length:=h4.2
 unfold zN eN
 omega
theorem zbq {c:DCode} (hc:CodeR c) {p i:Nat} (hp:p<c.entry.length) (h:zaB c p i):i<c.ins.length∧zar c i=p:=by
 have he:=zfp hc hp
 rcases h with rfl | h
 · exact ⟨he.2.1,he.2.2⟩
 refine h.keeps (p:=fun i=>i<c.ins.length∧zar c i=p) ⟨he.2.1,he.2.2⟩ fun i j hi hj=>?_
 have:=zcA hc hi.1 hj
 exact ⟨this.1,this.2.trans hi.2⟩
theorem zqT {c:DCode} {p i j:Nat} (h:zaB c p i) (hj:j∈zax c i):zaB c p j:=by
 rcases h with rfl | h
 · exact .inr (.one hj)
 exact .inr (.more h hj)
theorem znn {c:DCode} (hc:CodeR c) {p i:Nat} (hi:i<c.ins.length) (hp:p<c.entry.length) (h:zar c i=p):eN c p≤i∧i≤zN c p:=by
 obtain ⟨q,hq,h1,h2,h3⟩:=hc.f.find hc.1.procs8.2 (a:=(i:Int)) (by omega) (by omega)
 have:q=p:=by omega
 subst this
 have h4:=zjE hc hp
 have h5:=zfp hc hp
 omega
theorem zle {c:DCode} (hc:CodeR c) {p i:Nat} (hp:p<c.entry.length) (h1:eN c p≤i) (h2:i≤zN c p):zar c i=p:=by
 have h4:=zjE hc hp
 have h5:=zfp hc hp
 exact hc.f.proc hp (by omega) (by omega)
theorem zbN {c:DCode} (hc:CodeR c) {i:Nat} (hi:i<c.ins.length) (ho:(zak c i).op=4∨(zak c i).op=5):(zak c i).arg=(agN c i:Int)∧agN c i<c.procs.length:=by
 have harg:=(zgY hc hi).2.1
 unfold zbM at harg
 rw [if_neg (by omega),if_pos (by omega)] at harg
 unfold agN
 omega
theorem zfi {c:DCode} (hc:CodeR c) {i:Nat} (hi:i<c.ins.length) (ho:(zak c i).op=6∨(zak c i).op=7):(zak c i).arg=(agN c i:Int)∧agN c i<c.locks.length∧agN c i<6:=by
 have h:=zsh hc hi ho
 have h6:=hc.1.locks6
 unfold agN
 omega
def zuQ (c:DCode) (K G:Nat→Nat→Prop) (i l:Nat):Prop:=((zak c i).op=7∧agN c i=l)∨((zak c i).op=4∧¬K (agN c i) l∧¬G (agN c i) l)
def zqU (c:DCode) (G:Nat→Nat→Prop) (i l:Nat):Prop:=¬((zak c i).op=6∧agN c i=l)∧¬((zak c i).op=4∧G (agN c i) l)
inductive LostP (c:DCode) (K G:Nat→Nat→Prop) (p:Nat) (h:Nat→Prop):Nat→Nat→Prop
 | ent {l:Nat} (h0:¬h l):LostP c K G p h (eN c p) l
 | gen {i j l:Nat} (h0:zaB c p i) (hj:j∈zax c i) (h1:zuQ c K G i l):LostP c K G p h j l
 | pass {i j l:Nat} (h0:zaB c p i) (hj:j∈zax c i) (h1:LostP c K G p h i l) (h2:zqU c G i l):LostP c K G p h j l
theorem LostP.mono {c:DCode} {K K' G G':Nat→Nat→Prop} {p:Nat} {h h':Nat→Prop} (hK:∀ q l,K' q l→K q l) (hG:∀ q l,G' q l→G q l) (hh:∀ l,h' l→h l) {i l:Nat} (hl:LostP c K G p h i l):LostP c K' G' p h' i l:=by
 induction hl with
 | ent h0=>exact .ent fun e=>h0 (hh _ e)
 | gen h0 hj h1=>exact .gen h0 hj (h1.imp id fun ⟨a,b,d⟩=>⟨a,fun e=>b (hK _ _ e),fun e=>d (hG _ _ e)⟩)
 | pass h0 hj _ h2 ih=>exact .pass h0 hj ih ⟨h2.1,fun ⟨a,b⟩=>h2.2 ⟨a,hG _ _ b⟩⟩
abbrev Tab:=List (Nat×Nat)
def tbl (T:Tab) (q:Nat):Nat×Nat:=T.getD q (0,0)
def tK (T:Tab) (q l:Nat):Prop:=(tbl T q).1.testBit l=true
def tG (T:Tab) (q l:Nat):Prop:=(tbl T q).2.testBit l=true
theorem zhH {T:Tab} {q:Nat} (h:q<T.length):T[q]=tbl T q:=by unfold tbl;rw [List.getD_eq_getElem?_getD,List.getElem?_eq_getElem h];rfl
theorem ztP {T:Tab} {q r:Nat} {v:Nat×Nat} (h:q<T.length):tbl (T.set q v) r=if q=r then v else tbl T r:=by
 unfold tbl
 rw [List.getD_eq_getElem?_getD,List.getD_eq_getElem?_getD,List.getElem?_set]
 by_cases e:q=r
 · subst e;simp [h]
 simp [e]
def zqV (c:DCode) (T:Tab):Prop:=T.length=c.procs.length∧∀ q,(tbl T q).1<64∧(tbl T q).2<64
def aft (c:DCode) (T:Tab) (i m:Nat):Nat:=
 if (zak c i).op=6 then m ||| 2^agN c i else if (zak c i).op=7 then znl m (2^agN c i) else if (zak c i).op=4 then (m &&& (tbl T (agN c i)).1) ||| (tbl T (agN c i)).2 else m
theorem zs0 {c:DCode} {T:Tab} (hc:CodeR c) (hT:zqV c T) {i m:Nat} (hi:i<c.ins.length) (hm:m<64):aft c T i m<64:=by
 unfold aft
 split
 · rename_i h
   exact zsZ hm (zfi hc hi (.inl h)).2.2
 split
 · exact Nat.lt_of_le_of_lt (zla _ _) hm
 split
 · exact Nat.or_lt_two_pow (n:=6) (Nat.lt_of_le_of_lt Nat.and_le_left hm) (hT.2 _).2
 exact hm
theorem zjm {c:DCode} {T:Tab} {i m l:Nat}:(aft c T i m).testBit l=false↔zuQ c (tK T) (tG T) i l∨(zqU c (tG T) i l∧m.testBit l=false):=by
 unfold aft zuQ zqU tK tG
 split
 · rename_i h
   rw [Nat.testBit_or,Nat.testBit_two_pow]
   have e6:((zak c i).op=6)=True:=eq_true h
   have e4:((zak c i).op=4)=False:=eq_false (by omega)
   have e7:((zak c i).op=7)=False:=eq_false (by omega)
   simp only [e6,e4,e7,true_and,false_and,false_or,or_false,not_false_eq_true,and_true,Bool.or_eq_false_iff,decide_eq_false_iff_not]
   exact ⟨fun ⟨a,b⟩=>⟨b,a⟩,fun ⟨a,b⟩=>⟨b,a⟩⟩
 rename_i h6
 have e6:((zak c i).op=6)=False:=eq_false h6
 split
 · rename_i h
   have e7:((zak c i).op=7)=True:=eq_true h
   have e4:((zak c i).op=4)=False:=eq_false (by omega)
   rw [zff,Nat.testBit_two_pow]
   simp only [e6,e4,e7,true_and,false_and,false_or,or_false,not_false_eq_true,and_true,Bool.and_eq_false_iff,Bool.not_eq_false',decide_eq_true_eq]
   exact ⟨fun h=>h.elim .inr .inl,fun h=>h.elim .inr .inl⟩
 rename_i h7
 have e7:((zak c i).op=7)=False:=eq_false h7
 split
 · rename_i h
   have e4:((zak c i).op=4)=True:=eq_true h
   rw [Nat.testBit_or,Nat.testBit_and]
   simp only [e6,e4,e7,true_and,false_and,false_or,not_false_eq_true]
   cases (tbl T (agN c i)).1.testBit l<;>cases (tbl T (agN c i)).2.testBit l<;>cases m.testBit l<;>simp
 rename_i h4
 simp [h6,h7,h4]
noncomputable def zbQ (c:DCode) (T:Tab) (p h:Nat):List Nat:=(List.range c.ins.length).map fun i=>m6 fun l=>¬LostP c (tK T) (tG T) p (fun l=>h.testBit l=true) i l
theorem zdu (c:DCode) (T:Tab) (p h:Nat):(zbQ c T p h).length=c.ins.length:=by simp [zbQ]
theorem zim {c:DCode} {T:Tab} {p h i:Nat} (hi:i<c.ins.length):zaw (zbQ c T p h) i=m6 fun l=>¬LostP c (tK T) (tG T) p (fun l=>h.testBit l=true) i l:=by
 rw [←zaU (by rw [zdu];exact hi)];simp [zbQ]
theorem zg1 {c:DCode} {T:Tab} {p h:Nat}:∀ x∈zbQ c T p h,x<64:=fun x hx=>by
 unfold zbQ at hx
 obtain ⟨i,_,rfl⟩:=List.mem_map.1 hx
 exact zlc
structure FL (c:DCode) (T:Tab) (p h:Nat) (out:List Nat):Prop where
 len:out.length=c.ins.length
 lt:∀ x∈out,x<64
 snd:∀ i l,i<c.ins.length→l<6→(zaw out i).testBit l=false→LostP c (tK T) (tG T) p (fun l=>h.testBit l=true) i l
 ent:∀ l,l<6→h.testBit l=false→(zaw out (eN c p)).testBit l=false
theorem FL.lt0 {c:DCode} {T:Tab} {p h:Nat} {out:List Nat} (h:FL c T p h out) (i:Nat):zaw out i<64:=by
 rcases Nat.lt_or_ge i out.length with hi | hi
 · exact h.lt _ (zld hi)
 unfold zaw;rw [List.getD_eq_getElem?_getD,List.getElem?_eq_none hi];simp
theorem zg2 {l:Nat} (h:l<6):(63:Nat).testBit l=true:=by
 have:l=0∨l=1∨l=2∨l=3∨l=4∨l=5:=by omega
 rcases this with rfl | rfl | rfl | rfl | rfl | rfl<;>rfl
theorem FL.start {c:DCode} {T:Tab} {p h:Nat} (hc:CodeR c) (hp:p<c.entry.length) (hh:h<64):FL c T p h ((List.replicate c.ins.length 63).set (eN c p) h):=by
 have he:=(zfp hc hp).2.1
 have hr:(List.replicate c.ins.length 63).length=c.ins.length:=by simp
 have hg:∀ i,i<c.ins.length→zaw (List.replicate c.ins.length 63) i=63:=fun i hi=>by rw [←zaU (by rw [hr];exact hi)];simp
 refine ⟨by simp,fun x hx=>?_,fun i l hi hl hb=>?_,fun l hl hb=>?_⟩
 · rcases zgu hx with rfl | hx
   · exact hh
   rw [(List.mem_replicate.1 hx).2];omega
 · rw [zbF (by rw [hr];exact he)] at hb
   split at hb
   · rename_i e
     subst e
     exact .ent (by rw [hb];simp)
   rw [hg i hi,zg2 hl] at hb;cases hb
 rw [zbF (by rw [hr];exact he),if_pos rfl];exact hb
theorem FL.upd {c:DCode} {T:Tab} {p h:Nat} {out:List Nat} (hF:FL c T p h out) (hc:CodeR c) (hp:p<c.entry.length) (hT:zqV c T) {i j:Nat} (hi:zaB c p i) (hj:j∈zax c i) :
   FL c T p h (out.set j (zaw out j &&& aft c T i (zaw out i))):=by
 have hil:=(zbq hc hp hi).1
 have hjl:=(zcA hc hil hj).1
 refine ⟨by simp [hF.len],fun x hx=>?_,fun k l hk hl hb=>?_,fun l hl hb=>?_⟩
 · rcases zgu hx with rfl | hx
   · exact Nat.lt_of_le_of_lt Nat.and_le_left (hF.lt0 j)
   exact hF.lt x hx
 · rw [zbF (by rw [hF.len];exact hjl)] at hb
   split at hb
   · rename_i e
     subst e
     rw [Nat.testBit_and,Bool.and_eq_false_iff] at hb
     rcases hb with hb | hb
     · exact hF.snd j l hk hl hb
     rcases zjm.1 hb with h1 | ⟨h1,h2⟩
     · exact .gen hi hj h1
     exact .pass hi hj (hF.snd i l hil hl h2) h1
   exact hF.snd k l hk hl hb
 rw [zbF (by rw [hF.len];exact hjl)]
 split
 · rename_i e
   rw [Nat.testBit_and,e,hF.ent l hl hb];rfl
 exact hF.ent l hl hb
theorem zs1 {a b:Nat} (h:a &&& b≠a):a &&& b<a:=by
 have:a &&& b≤a:=Nat.and_le_left
 omega
def zuR (c:DCode) (T:Tab) (out:List Nat) (i:Nat):Prop:=∀ j∈zax c i,zaw out j &&& aft c T i (zaw out i)=zaw out j
theorem FL.fin {c:DCode} {T:Tab} {p h:Nat} {out:List Nat} (hF:FL c T p h out) (hc:CodeR c) (hp:p<c.entry.length) (hs:∀ i,zaB c p i→zuR c T out i):out=zbQ c T p h:=by
 refine List.ext_getElem (by rw [hF.len,zdu]) fun i h1 h2=>?_
 rw [zaU h1,zaU h2,zim (by rw [←hF.len];exact h1)]
 refine zqS (hF.lt0 i) fun l hl=>⟨fun hb hn=>?_,fun hn=>zeR fun hb=>hn (hF.snd i l (by rw [←hF.len];exact h1) hl hb)⟩
 have key:∀ {i l:Nat},LostP c (tK T) (tG T) p (fun l=>h.testBit l=true) i l→l<6→(zaw out i).testBit l=false:=fun {i l} hn=>by
   induction hn with
   | ent h0=>exact fun hl=>hF.ent _ hl (by simpa using h0)
   | gen h0 hj h1=>
     intro hl
     rw [←hs _ h0 _ hj,Nat.testBit_and,zjm.2 (.inl h1),Bool.and_false]
   | pass h0 hj _ h2 ih=>
     intro hl
     rw [←hs _ h0 _ hj,Nat.testBit_and,zjm.2 (.inr ⟨h2,ih hl⟩),Bool.and_false]
 rw [key hn hl] at hb;cases hb
def FromP (c:DCode) (p q:Nat):Prop:=q=p∨RP (zjl c) p q
theorem FromP.lt {c:DCode} {p q:Nat} (hp:p<c.procs.length) (h:FromP c p q):q<c.procs.length:=by
 rcases h with rfl | h
 · exact hp
 exact h.keeps (p:=fun i=>i<c.procs.length) hp fun i j _ hj=>(zaT.1 hj).1
theorem FromP.trans {c:DCode} {p q r:Nat} (h:FromP c p q) (k:FromP c q r):FromP c p r:=by
 rcases h with rfl | h
 · exact k
 rcases k with rfl | k
 · exact .inr h
 exact .inr (h.trans k)
theorem FromP.call {c:DCode} {p q r:Nat} (h:FromP c p q) (hr:r<c.procs.length) (k:zil c q 4 r):FromP c p r:=h.trans (.inr (.one (zaT.2 ⟨hr,k⟩)))
noncomputable def zeS (c:DCode) (p:Nat):Nat:=m6 fun l=>¬ ∃ q i,q<c.procs.length∧FromP c p q∧zaB c q i∧(zak c i).op=7∧agN c i=l
inductive LostE (c:DCode):Nat→Nat→Nat→Prop
 | ent {p l:Nat}:LostE c p (eN c p) l
 | unl {p i j l:Nat} (h0:zaB c p i) (hj:j∈zax c i) (ho:(zak c i).op=7) (ha:agN c i=l):LostE c p j l
 | cal {p i j l:Nat} (h0:zaB c p i) (hj:j∈zax c i) (ho:(zak c i).op=4) (hk:(zeS c (agN c i)).testBit l=false) (h1:LostE c (agN c i) (zN c (agN c i)) l):LostE c p j l
 | bck {p i j l:Nat} (h0:zaB c p i) (hj:j∈zax c i) (ho:(zak c i).op=4) (h2:LostE c p i l) (h1:LostE c (agN c i) (zN c (agN c i)) l):LostE c p j l
 | pass {p i j l:Nat} (h0:zaB c p i) (hj:j∈zax c i) (h6:¬((zak c i).op=6∧agN c i=l)) (h4:¬(zak c i).op=4) (h1:LostE c p i l):LostE c p j l
noncomputable def zcB (c:DCode):Tab:=(List.range c.procs.length).map fun p=>(zeS c p,m6 fun l=>¬LostE c p (zN c p) l)
theorem zlf (c:DCode):(zcB c).length=c.procs.length:=by simp [zcB]
theorem zqW {c:DCode} {p:Nat} (hp:p<c.procs.length):tbl (zcB c) p=(zeS c p,m6 fun l=>¬LostE c p (zN c p) l):=by
 rw [←zhH (by rw [zlf];exact hp)];simp [zcB]
theorem zqX {c:DCode} {T:Tab} (hl:T.length=c.procs.length) (h:∀ q,q<c.procs.length→(tbl T q).1<64∧(tbl T q).2<64):zqV c T:=⟨hl,fun q=>by
 rcases Nat.lt_or_ge q c.procs.length with hq | hq
 · exact h q hq
 unfold tbl;rw [List.getD_eq_getElem?_getD,List.getElem?_eq_none (by omega)];simp⟩
theorem zf1 (c:DCode):zqV c (zcB c):=zqX (zlf c) fun q hq=>by rw [zqW hq];exact ⟨zlc,zlc⟩
noncomputable def zdv (c:DCode) (T:Tab) (p:Nat):Nat:=zaw (zbQ c T p 0) (zN c p)
theorem zg3 {c:DCode} (hc:CodeR c) {T:Tab} {p l:Nat} (hp:p<c.procs.length) (hl:l<6):(zdv c T p).testBit l=false↔LostP c (tK T) (tG T) p (fun l=>(0:Nat).testBit l=true) (zN c p) l:=by
 have hz:=(zjE hc (p:=p) (by rw [hc.2.1.1];exact hp)).2.2
 unfold zdv
 rw [zim hz]
 constructor
 · intro h
   refine Classical.byContradiction fun hn=>?_
   rw [zou.2 ⟨hl,hn⟩] at h;cases h
 intro h
 cases e:(m6 fun l=>¬LostP c (tK T) (tG T) p (fun l=>(0:Nat).testBit l=true) (zN c p) l).testBit l
 · rfl
 exact absurd h (zou.1 e).2
theorem zin {c:DCode} (hc:CodeR c) {T:Tab} {p:Nat} (hp:p<c.procs.length):zdv c T p<64:=by
 have hz:=(zjE hc (p:=p) (by rw [hc.2.1.1];exact hp)).2.2
 unfold zdv
 rw [zim hz];exact zlc
structure EI (c:DCode) (T:Tab):Prop where
 tab:zqV c T
 keep:∀ p,p<c.procs.length→(tbl T p).1=zeS c p
 snd:∀ p l,p<c.procs.length→l<6→(tbl T p).2.testBit l=false→LostE c p (zN c p) l
 desc:∀ p l,p<c.procs.length→l<6→(tbl T p).2.testBit l=false→(zdv c T p).testBit l=false
theorem EI.lost {c:DCode} (hc:CodeR c) {T:Tab} (h:EI c T) {p i l:Nat} (hp:p<c.procs.length) (hl:l<6) (k:LostP c (tK T) (tG T) p (fun l=>(0:Nat).testBit l=true) i l):LostE c p i l:=by
 have he:=hc.2.1.1
 induction k with
 | ent _=>exact .ent
 | gen h0 hj h1=>
   have hi:=(zbq hc (by rw [he];exact hp) h0).1
   rcases h1 with ⟨h1,h2⟩ | ⟨h1,h2,h3⟩
   · exact .unl h0 hj h1 h2
   have hq:=(zbN hc hi (.inl h1)).2
   refine .cal h0 hj h1 ?_ (h.snd _ _ hq hl (by unfold tG at h3;simpa using h3))
   unfold tK at h2
   rw [h.keep _ hq] at h2
   simpa using h2
 | @pass i j l h0 hj _ h2 ih=>
   have hi:=(zbq hc (by rw [he];exact hp) h0).1
   by_cases h4:(zak c i).op=4
   · have hq:=(zbN hc hi (.inl h4)).2
     refine .bck h0 hj h4 (ih hl) (h.snd _ _ hq hl ?_)
     have:=h2.2
     unfold tG at this
     simpa [h4] using this
   exact .pass h0 hj h2.1 h4 (ih hl)
theorem EI.start (c:DCode) (hc:CodeR c):EI c ((List.range c.procs.length).map fun p=>(zeS c p,63)):=by
 have hl:((List.range c.procs.length).map fun p=>(zeS c p,63)).length=c.procs.length:=by simp
 have hat:∀ p,p<c.procs.length→tbl ((List.range c.procs.length).map fun p=>(zeS c p,63)) p=(zeS c p,63):=fun p hp=>by
   rw [←zhH (by rw [hl];exact hp)];simp
 refine ⟨zqX hl fun q hq=>by rw [hat q hq];exact ⟨zlc,by omega⟩,fun p hp=>by rw [hat p hp],fun p l hp h6 hb=>?_,fun p l hp h6 hb=>?_⟩
 · rw [hat p hp,zg2 h6] at hb;cases hb
 rw [hat p hp,zg2 h6] at hb;cases hb
theorem EI.upd {c:DCode} (hc:CodeR c) {T:Tab} (h:EI c T) {p:Nat} (hp:p<c.procs.length):EI c (T.set p ((tbl T p).1,zdv c T p)):=by
 have hpl:p<T.length:=by rw [h.tab.1];exact hp
 have hat:=fun r=>ztP (T:=T) (q:=p) (r:=r) (v:=((tbl T p).1,zdv c T p)) hpl
 have hle:∀ q l,l<6→(tbl T q).2.testBit l=false→(tbl (T.set p ((tbl T p).1,zdv c T p)) q).2.testBit l=false:=fun q l hl hb=>by
   rw [hat]
   split
   · rename_i e;subst e;exact h.desc p l hp hl hb
   exact hb
 have hmono:∀ {q l:Nat},q<c.procs.length→l<6→(zdv c T q).testBit l=false→(zdv c (T.set p ((tbl T p).1,zdv c T p)) q).testBit l=false:=fun {q l} hq hl hb=>by
   rw [zg3 hc hq hl] at hb ⊢
   have key:∀ {i l:Nat},l<6→LostP c (tK T) (tG T) q (fun l=>(0:Nat).testBit l=true) i l→LostP c (tK (T.set p ((tbl T p).1,zdv c T p))) (tG (T.set p ((tbl T p).1,zdv c T p))) q (fun l=>(0:Nat).testBit l=true) i l:=fun {i l} hl k=>by
     have hK:∀ r l,tK (T.set p ((tbl T p).1,zdv c T p)) r l↔tK T r l:=fun r l=>by
       unfold tK
       rw [hat]
       split
       · rename_i e;rw [←e]
       exact Iff.rfl
     have hG:∀ r,tG (T.set p ((tbl T p).1,zdv c T p)) r l→tG T r l:=fun r e=>by
       unfold tG at e ⊢
       refine zeR fun hf=>?_
       rw [hle r l hl hf] at e;cases e
     clear hb
     induction k with
     | ent h0=>exact .ent h0
     | gen h0 hj h1=>exact .gen h0 hj (h1.imp id fun ⟨a,b,d⟩=>⟨a,fun e=>b ((hK _ _).1 e),fun e=>d (hG _ e)⟩)
     | pass h0 hj _ h2 ih=>exact .pass h0 hj (ih hl hG) ⟨h2.1,fun ⟨a,b⟩=>h2.2 ⟨a,hG _ b⟩⟩
   exact key hl hb
 refine ⟨⟨by simp [h.tab.1],fun q=>?_⟩,fun q hq=>?_,fun q l hq hl hb=>?_,fun q l hq hl hb=>?_⟩
 · rw [hat]
   split
   · exact ⟨(h.tab.2 p).1,zin hc hp⟩
   exact h.tab.2 q
 · rw [hat]
   split
   · rename_i e;subst e;exact h.keep p hp
   exact h.keep q hq
 · rw [hat] at hb
   split at hb
   · rename_i e;subst e
     exact h.lost hc hp hl ((zg3 hc hp hl).1 hb)
   exact h.snd q l hq hl hb
 rw [hat] at hb
 split at hb
 · rename_i e;subst e
   exact hmono hp hl hb
 exact hmono hq hl (h.desc q l hq hl hb)
theorem EI.le {c:DCode} (hc:CodeR c) {T:Tab} (h:EI c T) {p:Nat} (hp:p<c.procs.length):zdv c T p≤(tbl T p).2:=by
 refine Nat.le_of_testBit fun l hb=>?_
 have hl:=zhF (zin hc hp) hb
 refine zeR fun hf=>?_
 rw [h.desc p l hp hl hf] at hb;cases hb
theorem EI.fin {c:DCode} (hc:CodeR c) {T:Tab} (h:EI c T) (hs:∀ p,p<c.procs.length→zdv c T p=(tbl T p).2):T=zcB c:=by
 refine List.ext_getElem (by rw [h.tab.1,zlf]) fun p h1 h2=>?_
 have hp:p<c.procs.length:=by rw [←h.tab.1];exact h1
 rw [zhH h1,zhH h2,zqW hp]
 have key:∀ {p i l:Nat},LostE c p i l→p<c.procs.length→l<6→LostP c (tK T) (tG T) p (fun l=>(0:Nat).testBit l=true) i l:=fun {p i l} k=>by
   have hz:∀ {i l:Nat},(zak c i).op=4→i<c.ins.length→l<6→(agN c i<c.procs.length→l<6→LostP c (tK T) (tG T) (agN c i) (fun l=>(0:Nat).testBit l=true) (zN c (agN c i)) l)→¬tG T (agN c i) l:=fun {i l} ho hi hl k1=>by
     have hq:=(zbN hc hi (.inl ho)).2
     have:=(zg3 hc hq hl).2 (k1 hq hl)
     rw [hs _ hq] at this
     unfold tG
     rw [this];simp
   induction k with
   | ent=>exact fun _ _=>.ent (by simp)
   | unl h0 hj ho ha=>exact fun _ _=>.gen h0 hj (.inl ⟨ho,ha⟩)
   | cal h0 hj ho hk _ ih=>
     intro hp hl
     have hi:=(zbq hc (by rw [hc.2.1.1];exact hp) h0).1
     have hq:=(zbN hc hi (.inl ho)).2
     refine .gen h0 hj (.inr ⟨ho,?_,hz ho hi hl ih⟩)
     unfold tK
     rw [h.keep _ hq,hk];simp
   | bck h0 hj ho _ _ ih2 ih1=>
     intro hp hl
     have hi:=(zbq hc (by rw [hc.2.1.1];exact hp) h0).1
     exact .pass h0 hj (ih2 hp hl) ⟨fun h=>by omega,fun h=>hz ho hi hl ih1 h.2⟩
   | pass h0 hj h6 h4 _ ih=>exact fun hp hl=>.pass h0 hj (ih hp hl) ⟨h6,fun h=>h4 h.1⟩
 refine Prod.ext (h.keep p hp) (zqS (h.tab.2 p).2 fun l hl=>⟨fun hb hn=>?_,fun hn=>zeR fun hb=>hn (h.snd p l hp hl hb)⟩)
 have:=(zg3 hc hp hl).2 (key hn hp hl)
 rw [hs p hp] at this
 rw [this] at hb;cases hb
def zqY (T:Tab):Nat:=(T.map (·.2)).sum
theorem zsl {T:Tab} {p:Nat} {v:Nat×Nat} (hp:p<T.length):zqY (T.set p v)+(tbl T p).2=zqY T+v.2:=by
 unfold zqY
 rw [List.map_set]
 have:=zhG (l:=T.map (·.2)) (i:=p) (v:=v.2) (by simpa using hp)
 rw [←zaU (by simpa using hp)] at this
 rw [←zhH hp]
 simpa using this
def zb4 (c:DCode):Nat:=(plc zgo c.procs).toNat
inductive RootP (c:DCode):Nat→Prop
 | main:RootP c (zb4 c)
 | spawn {r p q:Nat} (h0:RootP c r) (h1:FromP c r p) (h2:zil c p 5 q) (hq:q<c.procs.length):RootP c q
def UsedP (c:DCode) (p:Nat):Prop:=∃ r,RootP c r∧FromP c r p
theorem zdM {c:DCode} (hc:CodeR c):plc zgo c.procs=(zb4 c:Int)∧zb4 c<c.procs.length:=by
 have h:=ztL hc
 have h2:=hc.2.1.1
 unfold zb4
 omega
theorem RootP.lt {c:DCode} (hc:CodeR c) {r:Nat} (h:RootP c r):r<c.procs.length:=by
 cases h with
 | main=>exact (zdM hc).2
 | spawn _ _ _ hq=>exact hq
theorem UsedP.lt {c:DCode} (hc:CodeR c) {p:Nat} (h:UsedP c p):p<c.procs.length:=by
 obtain ⟨r,h1,h2⟩:=h
 exact h2.lt (h1.lt hc)
theorem UsedP.call {c:DCode} {p q:Nat} (h:UsedP c p) (hq:q<c.procs.length) (k:zil c p 4 q):UsedP c q:=by
 obtain ⟨r,h1,h2⟩:=h
 exact ⟨r,h1,h2.call hq k⟩
inductive LostM (c:DCode) (K G:Nat→Nat→Prop):Nat→Option Nat→Nat→Prop
 | root {p l:Nat} (h:RootP c p):LostM c K G p none l
 | call {p i l:Nat} (hu:UsedP c p) (h0:zaB c p i) (ho:(zak c i).op=4) (h:LostM c K G p (some i) l):LostM c K G (agN c i) none l
 | ent {p l:Nat} (h:LostM c K G p none l):LostM c K G p (some (eN c p)) l
 | gen {p i j l:Nat} (h0:zaB c p i) (hj:j∈zax c i) (h1:zuQ c K G i l):LostM c K G p (some j) l
 | pass {p i j l:Nat} (h0:zaB c p i) (hj:j∈zax c i) (h1:LostM c K G p (some i) l) (h2:zqU c G i l):LostM c K G p (some j) l
noncomputable def zow (c:DCode) (p:Nat):Nat:=m6 fun l=>¬LostM c (tK (zcB c)) (tG (zcB c)) p none l
noncomputable def ztQ (c:DCode):List Nat:=(List.range c.procs.length).map (zow c)
theorem zio (c:DCode):(ztQ c).length=c.procs.length:=by simp [ztQ]
theorem zno {c:DCode} {p:Nat} (hp:p<c.procs.length):zaw (ztQ c) p=zow c p:=by rw [←zaU (by rw [zio];exact hp)];simp [ztQ]
structure BI (c:DCode) (out:List Nat):Prop where
 len:out.length=c.procs.length
 lt:∀ x∈out,x<64
 snd:∀ p l,p<c.procs.length→l<6→(zaw out p).testBit l=false→LostM c (tK (zcB c)) (tG (zcB c)) p none l
 root:∀ p l,RootP c p→l<6→(zaw out p).testBit l=false
theorem BI.lt0 {c:DCode} {out:List Nat} (h:BI c out) (i:Nat):zaw out i<64:=by
 rcases Nat.lt_or_ge i out.length with hi | hi
 · exact h.lt _ (zld hi)
 unfold zaw;rw [List.getD_eq_getElem?_getD,List.getElem?_eq_none hi];simp
theorem zlg {c:DCode} {T:Tab} {p h i l:Nat} (hi:i<c.ins.length) (hl:l<6):(zaw (zbQ c T p h) i).testBit l=false↔LostP c (tK T) (tG T) p (fun l=>h.testBit l=true) i l:=by
 rw [zim hi]
 constructor
 · intro h
   refine Classical.byContradiction fun hn=>?_
   rw [zou.2 ⟨hl,hn⟩] at h;cases h
 intro k
 cases e:(m6 fun l=>¬LostP c (tK T) (tG T) p (fun l=>h.testBit l=true) i l).testBit l
 · rfl
 exact absurd k (zou.1 e).2
theorem BI.start {c:DCode} (hc:CodeR c) (out:List Nat) (hl:out.length=c.procs.length) (h:∀ p,p<c.procs.length→(RootP c p→zaw out p=0)∧(¬RootP c p→zaw out p=63)):BI c out:=by
 refine ⟨hl,fun x hx=>?_,fun p l hp h6 hb=>?_,fun p l hr h6=>?_⟩
 · obtain ⟨i,hi,rfl⟩:=List.getElem_of_mem hx
   rw [zaU hi]
   have:=h i (by omega)
   by_cases hr:RootP c i
   · rw [this.1 hr];omega
   rw [this.2 hr];omega
 · by_cases hr:RootP c p
   · exact .root hr
   rw [(h p hp).2 hr,zg2 h6] at hb;cases hb
 rw [(h p (hr.lt hc)).1 hr];simp
theorem BI.lost {c:DCode} {out:List Nat} (h:BI c out) {p i l:Nat} (hp:p<c.procs.length) (hl:l<6) (k:LostP c (tK (zcB c)) (tG (zcB c)) p (fun l=>(zaw out p).testBit l=true) i l):LostM c (tK (zcB c)) (tG (zcB c)) p (some i) l:=by
 induction k with
 | ent h0=>exact .ent (h.snd p _ hp hl (by simpa using h0))
 | gen h0 hj h1=>exact .gen h0 hj h1
 | pass h0 hj _ h2 ih=>exact .pass h0 hj (ih hl) h2
theorem BI.upd {c:DCode} (hc:CodeR c) {out:List Nat} (h:BI c out) {p i:Nat} (hu:UsedP c p) (hi:zaB c p i) (ho:(zak c i).op=4) :
   BI c (out.set (agN c i) (zaw out (agN c i) &&& zaw (zbQ c (zcB c) p (zaw out p)) i)):=by
 have hp:=hu.lt hc
 have hil:=(zbq hc (by rw [hc.2.1.1];exact hp) hi).1
 have hq:=(zbN hc hil (.inl ho)).2
 refine ⟨by simp [h.len],fun x hx=>?_,fun r l hr hl hb=>?_,fun r l hr hl=>?_⟩
 · rcases zgu hx with rfl | hx
   · exact Nat.lt_of_le_of_lt Nat.and_le_left (h.lt0 _)
   exact h.lt x hx
 · rw [zbF (by rw [h.len];exact hq)] at hb
   split at hb
   · rename_i e
     subst e
     rw [Nat.testBit_and,Bool.and_eq_false_iff] at hb
     rcases hb with hb | hb
     · exact h.snd _ l hr hl hb
     refine .call hu hi ho ?_
     exact h.lost hp hl ((zlg hil hl).1 hb)
   exact h.snd r l hr hl hb
 rw [zbF (by rw [h.len];exact hq)]
 split
 · rename_i e
   rw [Nat.testBit_and,e,h.root r l hr hl];rfl
 exact h.root r l hr hl
theorem BI.fin {c:DCode} (hc:CodeR c) {out:List Nat} (h:BI c out) (hs:∀ p i,UsedP c p→zaB c p i→(zak c i).op=4→zaw out (agN c i) &&& zaw (zbQ c (zcB c) p (zaw out p)) i=zaw out (agN c i)):out=ztQ c:=by
 refine List.ext_getElem (by rw [h.len,zio]) fun p h1 h2=>?_
 have hp:p<c.procs.length:=by rw [←h.len];exact h1
 rw [zaU h1,zaU h2,zno hp]
 have key:∀ {p:Nat} {o:Option Nat} {l:Nat},LostM c (tK (zcB c)) (tG (zcB c)) p o l→l<6→match o with
     | none=>(zaw out p).testBit l=false
     | some i=>LostP c (tK (zcB c)) (tG (zcB c)) p (fun l=>(zaw out p).testBit l=true) i l:=fun {p o l} k=>by
   induction k with
   | root hr=>exact fun hl=>h.root _ _ hr hl
   | @call p i l hu h0 ho _ ih=>
     intro hl
     have hil:=(zbq hc (by rw [hc.2.1.1];exact hu.lt hc) h0).1
     simp only
     rw [←hs p i hu h0 ho,Nat.testBit_and,(zlg hil hl).2 (ih hl),Bool.and_false]
   | ent _ ih=>exact fun hl=>.ent (by have:=ih hl;simp only at this;rw [this];simp)
   | gen h0 hj h1=>exact fun hl=>.gen h0 hj h1
   | pass h0 hj _ h2 ih=>exact fun hl=>.pass h0 hj (ih hl) h2
 refine zqS (h.lt0 p) fun l hl=>⟨fun hb hn=>?_,fun hn=>zeR fun hb=>hn (h.snd p l hp hl hb)⟩
 have:=key hn hl
 simp only at this
 rw [this] at hb;cases hb
noncomputable def zeT (c:DCode) (i:Nat):Nat:=@ite _ (UsedP c (zar c i).toNat) (Classical.propDecidable _) (zaw (zbQ c (zcB c) (zar c i).toNat (zow c (zar c i).toNat)) i) 63
noncomputable def zhI (c:DCode):List Nat:=(List.range c.ins.length).map (zeT c)
theorem zg4 (c:DCode):(zhI c).length=c.ins.length:=by simp [zhI]
theorem zsm {c:DCode} {i:Nat} (hi:i<c.ins.length):zaw (zhI c) i=zeT c i:=by rw [←zaU (by rw [zg4];exact hi)];simp [zhI]
theorem zdC {l:List Nat} (h:∀ x∈l,x<64) (i:Nat):zaw l i<64:=by
 rcases Nat.lt_or_ge i l.length with hi | hi
 · exact h _ (zld hi)
 unfold zaw;rw [List.getD_eq_getElem?_getD,List.getElem?_eq_none hi];simp
theorem zqZ (c:DCode) (i:Nat):zeT c i<64:=by
 unfold zeT
 split
 · exact zdC zg1 i
 omega
theorem zlh (c:DCode):∀ x∈zhI c,x<64:=fun x hx=>by
 obtain ⟨i,_,rfl⟩:=List.mem_map.1 hx
 exact zqZ c i
theorem zjn {c:DCode} {i p:Nat} (hp:zar c i=p) (hu:UsedP c p):zeT c i=zaw (zbQ c (zcB c) p (zow c p)) i:=by
 unfold zeT
 rw [hp,Int.toNat_natCast,if_pos hu]
theorem zj5 {c:DCode} {i p:Nat} (hp:zar c i=p) (hu:¬UsedP c p):zeT c i=63:=by
 unfold zeT
 rw [hp,Int.toNat_natCast,if_neg hu]
inductive MetP (c:DCode):Nat→Prop
 | root {p:Nat} (h:RootP c p):MetP c (eN c p)
 | call {i:Nat} (h:MetP c i) (ho:(zak c i).op=4):MetP c (eN c (agN c i))
 | next {i j:Nat} (h:MetP c i) (ho:¬(zak c i).op=4) (hj:j∈zax c i):MetP c j
 | back {i j:Nat} (h:MetP c i) (ho:(zak c i).op=4) (hz:MetP c (zN c (agN c i))) (hj:j∈zax c i):MetP c j
theorem MetP.lt {c:DCode} (hc:CodeR c) {i:Nat} (h:MetP c i):i<c.ins.length:=by
 induction h with
 | root h=>exact (zfp hc (by rw [hc.2.1.1];exact h.lt hc)).2.1
 | call _ ho ih=>exact (zfp hc (by rw [hc.2.1.1];exact (zbN hc ih (.inl ho)).2)).2.1
 | next _ _ hj ih=>exact (zcA hc ih hj).1
 | back _ _ _ hj ih _=>exact (zcA hc ih hj).1
inductive MayP (c:DCode):Nat→Nat→Prop
 | lock {i j l:Nat} (h:MetP c i) (ho:(zak c i).op=6) (ha:agN c i=l) (hj:j∈zax c i):MayP c j l
 | pass {i j l:Nat} (h:MetP c i) (ho:¬(zak c i).op=4) (ha:¬((zak c i).op=7∧agN c i=l)) (hm:MayP c i l) (hj:j∈zax c i):MayP c j l
 | call {i l:Nat} (h:MetP c i) (ho:(zak c i).op=4) (hm:MayP c i l):MayP c (eN c (agN c i)) l
 | back {i j l:Nat} (h:MetP c i) (ho:(zak c i).op=4) (hz:MetP c (zN c (agN c i))) (hm:MayP c (zN c (agN c i)) l) (hj:j∈zax c i):MayP c j l
noncomputable def zox (c:DCode):List Bool:=zbP c.ins.length (MetP c)
noncomputable def zs2 (c:DCode):List Nat:=(List.range c.ins.length).map fun i=>m6 (MayP c i)
theorem zoy (c:DCode):(zs2 c).length=c.ins.length:=by simp [zs2]
theorem ztR {c:DCode} {i:Nat} (hi:i<c.ins.length):zaw (zs2 c) i=m6 (MayP c i):=by rw [←zaU (by rw [zoy];exact hi)];simp [zs2]
structure MetC (c:DCode) (M:Nat→Prop):Prop where
 root:∀ p,RootP c p→M (eN c p)
 call:∀ i,M i→(zak c i).op=4→M (eN c (agN c i))
 next:∀ i j,M i→¬(zak c i).op=4→j∈zax c i→M j
 back:∀ i j,M i→(zak c i).op=4→M (zN c (agN c i))→j∈zax c i→M j
theorem MetC.all {c:DCode} {M:Nat→Prop} (h:MetC c M) {i:Nat} (k:MetP c i):M i:=by
 induction k with
 | root h1=>exact h.root _ h1
 | call _ ho ih=>exact h.call _ ih ho
 | next _ ho hj ih=>exact h.next _ _ ih ho hj
 | back _ ho _ hj ih1 ih2=>exact h.back _ _ ih1 ho ih2 hj
structure MayC (c:DCode) (H:Nat→Nat→Prop):Prop where
 lock:∀ i j,MetP c i→(zak c i).op=6→j∈zax c i→H j (agN c i)
 pass:∀ i j l,MetP c i→l<6→¬(zak c i).op=4→¬((zak c i).op=7∧agN c i=l)→H i l→j∈zax c i→H j l
 call:∀ i l,MetP c i→l<6→(zak c i).op=4→H i l→H (eN c (agN c i)) l
 back:∀ i j l,MetP c i→l<6→(zak c i).op=4→MetP c (zN c (agN c i))→H (zN c (agN c i)) l→j∈zax c i→H j l
theorem MayC.all {c:DCode} {H:Nat→Nat→Prop} (h:MayC c H) {i l:Nat} (hl:l<6) (k:MayP c i l):H i l:=by
 induction k with
 | lock hm ho ha hj=>exact ha▸h.lock _ _ hm ho hj
 | pass hm ho ha _ hj ih=>exact h.pass _ _ _ hm hl ho ha (ih hl) hj
 | call hm ho _ ih=>exact h.call _ _ hm hl ho (ih hl)
 | back hm ho hz _ hj ih=>exact h.back _ _ _ hm hl ho hz (ih hl) hj
def F336 (a0 a1 a2:Value) (w:World) (R:VW):Prop:=
 oP (Instr.box 77 a0) w fun x3 w=>
 rF 77 x3 0 w fun x7=>
 rL 3 x7 w fun x8=>
 rB .eql 3 T0 U0 x8 (iV 6) w fun x10=>
 BR x10
 (rF 77 x3 1 w fun x12=>
 rL 3 x12 w fun x13=>
 rD (convert 3 97 x13) w fun x14=>
 rB .shl 3 U0 T0 (iV 1) x14 w fun x15=>
 rB .or 3 T0 T0 a2 x15 w fun x16=>
 R x16 w)
 (rB .eql 3 T0 U0 x8 (iV 7) w fun x18=>
 BR x18
 (rF 77 x3 1 w fun x20=>
 rL 3 x20 w fun x21=>
 rD (convert 3 97 x21) w fun x22=>
 rB .shl 3 U0 T0 (iV 1) x22 w fun x23=>
 rB .andNot 3 T0 T0 a2 x23 w fun x24=>
 R x24 w)
 (rB .eql 3 T0 U0 x8 (iV 4) w fun x26=>
 BR x26
 ((fun w=>rF 77 x3 1 w fun x29=>
 rL 3 x29 w fun x30=>
 rX 240 a1 x30 w fun x31=>
 rF 279 x31 0 w fun x32=>
 rL 3 x32 w fun x33=>
 rB .and 3 T0 T0 a2 x33 w fun x34=>
 rF 77 x3 1 w fun x36=>
 rL 3 x36 w fun x37=>
 rX 240 a1 x37 w fun x38=>
 rF 279 x38 1 w fun x39=>
 rL 3 x39 w fun x40=>
 rB .or 3 T0 T0 x34 x40 w fun x41=>
 R x41 w) (World.drew1 w))
 (R a2 w)))
def cfg336:Cfg:=⟨extL,[],[],[(7,[0,1,2,3,4,5,6,7,8,9,10,11,12,13,14,15],0)],[],[],[]⟩
theorem F336_call {a0 a1 a2:Value} {w:World} {R:VW} (h:F336 a0 a1 a2 w R):cL 336 [a0,a1,a2] w R:=co (g:=cfg336) Tryz.func336 (by kernel_rfl) (by kernel_rfl) (by kernel_rfl) h
def F307 (a0 a1 a2:Value) (w:World) (R:VW):Prop:=
 oP (Instr.box 77 a0) w fun x3 w=>
 rF 77 x3 0 w fun x7=>
 rL 3 x7 w fun x8=>
 rB .eql 3 T0 U0 x8 (iV 6) w fun x10=>
 BR x10
 (rF 77 x3 1 w fun x12=>
 rL 3 x12 w fun x13=>
 cL 161 [x13] w fun x14 w=>
 rB .or 3 T0 T0 a2 x14 w fun x15=>
 R x15 w)
 (rB .eql 3 T0 U0 x8 (iV 7) w fun x17=>
 BR x17
 (rF 77 x3 1 w fun x19=>
 rL 3 x19 w fun x20=>
 cL 161 [x20] w fun x21 w=>
 cL 243 [a2,x21] w fun x22 w=>
 R x22 w)
 (rB .eql 3 T0 U0 x8 (iV 4) w fun x24=>
 BR x24
 ((fun w=>rF 77 x3 1 w fun x27=>
 rL 3 x27 w fun x28=>
 rX 240 a1 x28 w fun x29=>
 rF 279 x29 0 w fun x30=>
 rL 3 x30 w fun x31=>
 rB .and 3 T0 T0 a2 x31 w fun x32=>
 rF 77 x3 1 w fun x34=>
 rL 3 x34 w fun x35=>
 rX 240 a1 x35 w fun x36=>
 rF 279 x36 1 w fun x37=>
 rL 3 x37 w fun x38=>
 rB .or 3 T0 T0 x32 x38 w fun x39=>
 R x39 w) (World.drew1 w))
 (R a2 w)))
def cfg307:Cfg:=⟨extL,[],[],[(7,[0,1,2,3,4,5,6,7,8,9,10,11,12,13,14,15],0)],[],[],[]⟩
theorem F307_call {a0 a1 a2:Value} {w:World} {R:VW} (h:F307 a0 a1 a2 w R):cL 307 [a0,a1,a2] w R:=co (g:=cfg307) Tryz.func307 (by kernel_rfl) (by kernel_rfl) (by kernel_rfl) h
open Rep (rep)
structure DEffect where
 keep:Int
 gen:Int
theorem DEffect.ext_iff {x y:DEffect}:x=y↔(x.keep=y.keep∧x.gen=y.gen):=⟨fun h=>by rw [h];exact ⟨rfl,rfl⟩,fun h=>by obtain ⟨h0,h1⟩:=h;cases x;cases y;simp only at h0 h1;simp only [h0,h1]⟩
instance:DecidableEq DEffect:=fun x y=>decidable_of_iff (x.keep=y.keep∧x.gen=y.gen) DEffect.ext_iff.symm
instance:Rep DEffect:=Rep.via fun x=>(x.keep,x.gen)
theorem zh5 {w:World} {b o:Nat} {x:DEffect} (h:At w b o x):At w b (o+0) x.keep:=zcn (α:=Int) (β:=Int) (p:=(x.keep,x.gen)) h
theorem zel {w:World} {b o:Nat} {x:DEffect} (h:At w b o x):At w b (o+1) x.gen:=za4 (α:=Int) (β:=Int) (p:=(x.keep,x.gen)) h
instance:RepZ DEffect:=⟨⟨(RepZ.zv:Int),(RepZ.zv:Int)⟩,RepZ.zc (Int×Int),fun w=>RepZ.zr (α:=Int×Int) w⟩
theorem zjF {γ:Type} {H:List Nat→World→γ→Prop} {F:List Nat} {w:World} {b o:Nat} {G:List Nat} {x:DEffect} {upd:DEffect→γ} (h:Lens H F w b o G x upd) :
   ∃ G1,Lens H F w b (o+1) G1 x.gen (fun y=>upd ⟨x.keep,y⟩):=by
 have h':Lens H F w b o G (x.keep,x.gen) (fun p:Int×Int=>upd ⟨p.1,p.2⟩):=⟨h.here,h.sub,fun w' G' y' hc hO hs=>h.back w' G' _ hc hO hs⟩
 obtain ⟨G0,h'⟩:=h'.snd
 exact ⟨_,h'⟩
theorem zpm {w:World} {x:DEffect} (h_keep:I64 x.keep) (h_gen:I64 x.gen):Mine [] w (.agg #[.int .i64 x.keep,.int .i64 x.gen]) x:=⟨⟨[.int .i64 x.keep,.int .i64 x.gen],⟨[],[],[.int .i64 x.keep],[.int .i64 x.gen],rfl,rfl,⟨rfl,rfl,h_keep⟩,⟨rfl,rfl,h_gen⟩⟩,rfl⟩,List.nodup_nil,Wr.nil w⟩
instance:Flat DEffect:=⟨fun h=>Flat.flat (α:=Int×Int) h⟩
def zrK (x:Nat×Nat):DEffect:=⟨(x.1:Int),(x.2:Int)⟩
def zgb (T:Tab):List DEffect:=T.map zrK
theorem zem (T:Tab):(zgb T).length=T.length:=by simp [zgb]
theorem zfj {T:Tab} {q:Nat} (h:q<(zgb T).length):(zgb T)[q]=zrK (tbl T q):=by
 have h':q<T.length:=by rw [←zem];exact h
 rw [←zhH h'];simp [zgb]
theorem zsn (T:Tab) (q:Nat) (v:Nat×Nat):zgb (T.set q v)=(zgb T).set q (zrK v):=by simp [zgb,List.map_set]
theorem zfI {n:Nat} (h:n<6):2^n<64:=Nat.pow_lt_pow_right (n:=6) (by omega) h
theorem FL.updM {c:DCode} {T:Tab} {p h m:Nat} {out:List Nat} (hF:FL c T p h out) (hc:CodeR c) (hp:p<c.entry.length) {i j:Nat} (hi:zaB c p i) (hj:j∈zax c i)
   (hm:∀ l,l<6→m.testBit l=false→LostP c (tK T) (tG T) p (fun l=>h.testBit l=true) i l):FL c T p h (out.set j (zaw out j &&& aft c T i m)):=by
 have hil:=(zbq hc hp hi).1
 have hjl:=(zcA hc hil hj).1
 refine ⟨by simp [hF.len],fun x hx=>?_,fun k l hk hl hb=>?_,fun l hl hb=>?_⟩
 · rcases zgu hx with rfl | hx
   · exact Nat.lt_of_le_of_lt Nat.and_le_left (hF.lt0 j)
   exact hF.lt x hx
 · rw [zbF (by rw [hF.len];exact hjl)] at hb
   split at hb
   · rename_i e
     subst e
     rw [Nat.testBit_and,Bool.and_eq_false_iff] at hb
     rcases hb with hb | hb
     · exact hF.snd j l hk hl hb
     rcases zjm.1 hb with h1 | ⟨h1,h2⟩
     · exact .gen hi hj h1
     exact .pass hi hj (hm l hl h2) h1
   exact hF.snd k l hk hl hb
 rw [zbF (by rw [hF.len];exact hjl)]
 split
 · rename_i e
   rw [Nat.testBit_and,e,hF.ent l hl hb];rfl
 exact hF.ent l hl hb
theorem zq0 {w W0 W1:World} {v0 v1:Value} {c:DCode} {T:Tab} {i m:Nat} (h0:Is W0 v0 (zak c i)) (e0:Ext W0 w) (h1:Is W1 v1 (zgb T)) (e1:Ext W1 w) (hc:CodeR c) (hT:zqV c T) (hi:i<c.ins.length) (hm:m<64) :
   CALL Tryz.prog 336 [v0,v1,.int .i64 (m:Int)] w fun r w'=>Ext w w'∧r=.int .i64 (aft c T i m:Nat):=by
 refine F336_call ?_
 unfold F336
 refine zaV h0 e0 fun w1 hx1 hA=>?_
 have hag4:=fun h=>zbN hc hi (.inl h)
 have hag6:=fun h=>zfi hc hi h
 have h8:=hc.1.procs8
 have haft:aft c T i m=if (zak c i).op=6 then m ||| 2^agN c i else if (zak c i).op=7 then znl m (2^agN c i) else if (zak c i).op=4 then (m &&& (tbl T (agN c i)).1) ||| (tbl T (agN c i)).2 else m:=rfl
 rw [haft]
 clear haft
 generalize agN c i=q at *
 generalize zak c i=I at *
 refine zaa zbf ?_
 refine zac ty3 (zay hA) (Ext.refl _) fun _=>?_
 refine zai ?_
 refine br (fun c6=>?_) (fun c6=>?_)
 · obtain ⟨ha,_,hq⟩:=hag6 (.inl c6)
   have hp:=zfI hq
   rw [if_pos c6]
   refine zaa zbu ?_
   refine zac ty3 (zaC hA) (Ext.refl _) fun _=>?_
   rw [ha]
   refine zdA (by kernel_rfl) u97 (by omega) ?_
   refine zer (by omega) ?_
   refine zge (by omega) (by omega) ?_
   exact ⟨hx1,rfl⟩
 rw [if_neg c6]
 refine zai ?_
 refine br (fun c7=>?_) (fun c7=>?_)
 · obtain ⟨ha,_,hq⟩:=hag6 (.inr c7)
   have hp:=zfI hq
   rw [if_pos c7]
   refine zaa zbu ?_
   refine zac ty3 (zaC hA) (Ext.refl _) fun _=>?_
   rw [ha]
   refine zdA (by kernel_rfl) u97 (by omega) ?_
   refine zer (by omega) ?_
   refine zjj (by omega) (by omega) ?_
   exact ⟨hx1,rfl⟩
 rw [if_neg c7]
 refine zai ?_
 refine br (fun c4=>?_) (fun c4=>?_)
 · obtain ⟨ha,hq⟩:=hag4 c4
   rw [if_pos c4]
   have hx2:=zaj w1
   generalize World.drew1 w1=w2 at *
   have hql:q<(zgb T).length:=by rw [zem,hT.1];exact hq
   have hr:=hT.2 q
   have hx12:=hx1.trans hx2
   refine zaa zbu ?_
   refine zac ty3 (zaC hA) hx2 fun _=>?_
   rw [ha]
   refine zad zqf zjB h1 hql fun b1 o1 hE=>?_
   rw [zfj] at hE
   refine zaa zqg ?_
   refine zac ty3 (zh5 hE) (e1.trans hx12) fun _=>?_
   refine zd7 (n:=(tbl T q).1) (by omega) (by omega) ?_
   refine zaa zbu ?_
   refine zac ty3 (zaC hA) hx2 fun _=>?_
   rw [ha]
   refine zad zqf zjB h1 hql fun b2 o2 hE2=>?_
   rw [zfj] at hE2
   refine zaa ziK ?_
   refine zac ty3 (zel hE2) (e1.trans hx12) fun _=>?_
   have:=Nat.and_le_left (n:=m) (m:=(tbl T q).1)
   refine zge (n:=(tbl T q).2) (by omega) (by omega) ?_
   exact ⟨hx12,rfl⟩
 rw [if_neg c4]
 exact ⟨hx1,rfl⟩
def F243 (a0 a1:Value) (w:World) (R:VW):Prop:=
 cL 227 [a0] w fun x6 w=>
 rD (Op.unary .not x6) w fun x7=>
 BR x7
 (R (iV 0) w)
 (cL 227 [a1] w fun x10 w=>
 rD (Op.unary .not x10) w fun x11=>
 BR x11
 (R (iV 0) w)
 (rB .sub 3 U0 T0 (iV 63) a1 w fun x15=>
 rB .and 3 T0 T0 a0 x15 w fun x16=>
 R x16 w))
def cfg243:Cfg:=⟨extL,[],[],[],[],[],[]⟩
theorem F243_call {a0 a1:Value} {w:World} {R:VW} (h:F243 a0 a1 w R):cL 243 [a0,a1] w R:=co (g:=cfg243) Tryz.func243 (by kernel_rfl) (by kernel_rfl) (by kernel_rfl) h
theorem zhJ {w:World} {a:Nat} {b:Nat}   (ha:a<64) (hb:b<64) :
   CALL Tryz.prog 243 [.int .i64 (a:Int),.int .i64 (b:Int)] w fun r w'=>Ext w w'∧(r=.int .i64 ((a &&& (63-b):Nat):Int)):=by
 refine F243_call ?_
 unfold F243
 refine (zos ).mono ?_
 rintro _ w1_ ⟨hx1_,rfl⟩
 refine zaX ?_
 refine br (fun c1=>?_) (fun c1=>?_)
 · refine ⟨hx1_,?_⟩
   first | rfl | (exfalso;omega)
 refine (zos ).mono ?_
 rintro _ w2_ ⟨hx2_,rfl⟩
 refine zaX ?_
 refine br (fun c2=>?_) (fun c2=>?_)
 · refine ⟨(hx1_.trans hx2_),?_⟩
   first | rfl | (exfalso;omega)
 have e63:(63:Int)-(b:Int)=((63-b:Nat):Int):=by omega
 refine zbp (by unfold I64;omega) ?_
 rw [e63]
 refine zd7 (by omega) (by omega) ?_
 refine ⟨(hx1_.trans hx2_),?_⟩
 first | rfl | (exfalso;omega)
theorem zgv {a b:Nat} (ha:a<64) (hb:b<64):a &&& (63-b)=znl a b:=by
 refine Nat.eq_of_testBit_eq fun l=>?_
 rw [Nat.testBit_and,zff]
 cases h:a.testBit l
 · rfl
 have hl:=zhF ha h
 have:=Nat.testBit_two_pow_sub_succ (n:=6) (x:=b) hb l
 rw [show 2^6-(b+1)=63-b by omega] at this
 rw [this,decide_eq_true hl,Bool.true_and]
theorem znp {w W0 W1:World} {v0 v1:Value} {c:DCode} {T:Tab} {i m:Nat} (h0:Is W0 v0 (zak c i)) (e0:Ext W0 w) (h1:Is W1 v1 (zgb T)) (e1:Ext W1 w) (hc:CodeR c) (hT:zqV c T) (hi:i<c.ins.length) (hm:m<64) :
   CALL Tryz.prog 307 [v0,v1,.int .i64 (m:Int)] w fun r w'=>Ext w w'∧r=.int .i64 (aft c T i m:Nat):=by
 refine F307_call ?_
 unfold F307
 refine zaV h0 e0 fun w1 hx1 hA=>?_
 have hag4:=fun h=>zbN hc hi (.inl h)
 have hag6:=fun h=>zfi hc hi h
 have h8:=hc.1.procs8
 have haft:aft c T i m=if (zak c i).op=6 then m ||| 2^agN c i else if (zak c i).op=7 then znl m (2^agN c i) else if (zak c i).op=4 then (m &&& (tbl T (agN c i)).1) ||| (tbl T (agN c i)).2 else m:=rfl
 rw [haft]
 clear haft
 generalize agN c i=q at *
 generalize zak c i=I at *
 refine zaa zbf ?_
 refine zac ty3 (zay hA) (Ext.refl _) fun _=>?_
 refine zai ?_
 refine br (fun c6=>?_) (fun c6=>?_)
 · obtain ⟨ha,_,hq⟩:=hag6 (.inl c6)
   have hp:=zfI hq
   rw [if_pos c6]
   refine zaa zbu ?_
   refine zac ty3 (zaC hA) (Ext.refl _) fun _=>?_
   rw [ha]
   refine (zfH (by omega)).mono ?_
   rintro _ w2 ⟨hx2,rfl⟩
   refine zge (by omega) (by omega) ?_
   exact ⟨hx1.trans hx2,rfl⟩
 rw [if_neg c6]
 refine zai ?_
 refine br (fun c7=>?_) (fun c7=>?_)
 · obtain ⟨ha,_,hq⟩:=hag6 (.inr c7)
   have hp:=zfI hq
   rw [if_pos c7]
   refine zaa zbu ?_
   refine zac ty3 (zaC hA) (Ext.refl _) fun _=>?_
   rw [ha]
   refine (zfH (by omega)).mono ?_
   rintro _ w2 ⟨hx2,rfl⟩
   refine (zhJ hm hp).mono ?_
   rintro _ w3 ⟨hx3,rfl⟩
   exact ⟨(hx1.trans hx2).trans hx3,by rw [zgv hm hp]⟩
 rw [if_neg c7]
 refine zai ?_
 refine br (fun c4=>?_) (fun c4=>?_)
 · obtain ⟨ha,hq⟩:=hag4 c4
   rw [if_pos c4]
   have hx2:=zaj w1
   generalize World.drew1 w1=w2 at *
   have hql:q<(zgb T).length:=by rw [zem,hT.1];exact hq
   have hr:=hT.2 q
   have hx12:=hx1.trans hx2
   refine zaa zbu ?_
   refine zac ty3 (zaC hA) hx2 fun _=>?_
   rw [ha]
   refine zad zqf zjB h1 hql fun b1 o1 hE=>?_
   rw [zfj] at hE
   refine zaa zqg ?_
   refine zac ty3 (zh5 hE) (e1.trans hx12) fun _=>?_
   refine zd7 (n:=(tbl T q).1) (by omega) (by omega) ?_
   refine zaa zbu ?_
   refine zac ty3 (zaC hA) hx2 fun _=>?_
   rw [ha]
   refine zad zqf zjB h1 hql fun b2 o2 hE2=>?_
   rw [zfj] at hE2
   refine zaa ziK ?_
   refine zac ty3 (zel hE2) (e1.trans hx12) fun _=>?_
   have:=Nat.and_le_left (n:=m) (m:=(tbl T q).1)
   refine zge (n:=(tbl T q).2) (by omega) (by omega) ?_
   exact ⟨hx12,rfl⟩
 rw [if_neg c4]
 exact ⟨hx1,rfl⟩
end Go.Proofs.YtbnjpfjjmhodnaaGreat
