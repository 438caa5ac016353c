/-
  Parts of the proof, put together by program.
-/
import Derived.Test.YtakjaofncelghaaGreatPFnRankedRuns4
set_option linter.unusedVariables false
set_option linter.unusedSimpArgs false
set_option linter.unusedSectionVars false
namespace Go.Sh
open Rep (rep)
instance:RepZ Raw:=⟨⟨.slice none 0 0⟩,[.slice none 0 0],λ_=>⟨rfl,rfl,rfl⟩⟩
abbrev RIns:=RV DIns 118
structure DEm where
 a:Raw
 b:Raw
 c:Raw
 ins:RIns
theorem DEm.ext_iff {x y:DEm}:x=y↔(x.a=y.a∧x.b=y.b∧x.c=y.c∧x.ins=y.ins):=⟨λh=>by rw [h];exact ⟨rfl,rfl,rfl,rfl⟩,λh=>by obtain ⟨h0,h1,h2,h3⟩:=h;cases x;cases y;simp only at h0 h1 h2 h3;simp only [h0,h1,h2,h3]⟩
instance:Rep DEm:=Rep.via λx=>(x.a,x.b,x.c,x.ins)
theorem zlO {w:World} {b o:Nat} {x:DEm} (h:At w b o x):At w b (o+3) x.ins:=zbj (α:=Raw) (β:=RIns) (p:=(x.c,x.ins)) (zbj (α:=Raw) (β:=Raw×RIns) (p:=(x.b,x.c,x.ins)) (zbj (α:=Raw) (β:=Raw×Raw×RIns) (p:=(x.a,x.b,x.c,x.ins)) h))
instance:RepZ DEm:=⟨⟨(RepZ.zv:Raw),(RepZ.zv:Raw),(RepZ.zv:Raw),(RepZ.zv:RIns)⟩,RepZ.zc (Raw×Raw×Raw×RIns),λw=>RepZ.zr (α:=Raw×Raw×Raw×RIns) w⟩
theorem zqR {γ:Type} {H:List Nat→World→γ→Prop} {F:List Nat} {w:World} {b o:Nat} {G:List Nat} {x:DEm} {upd:DEm→γ} (h:Lens H F w b o G x upd) :
   ∃ G1,Lens H F w b (o+0) G1 x.a (λy=>upd ⟨y,x.b,x.c,x.ins⟩):=by
 have h':Lens H F w b o G (x.a,x.b,x.c,x.ins) (λp:Raw×Raw×Raw×RIns=>upd ⟨p.1,p.2.1,p.2.2.1,p.2.2.2⟩):=⟨h.here,h.sub,λw' G' y' hc hO hs=>h.back w' G' _ hc hO hs⟩;obtain ⟨G0,h'⟩:=h'.fst;exact ⟨_,h'⟩
theorem zqS {γ:Type} {H:List Nat→World→γ→Prop} {F:List Nat} {w:World} {b o:Nat} {G:List Nat} {x:DEm} {upd:DEm→γ} (h:Lens H F w b o G x upd) :
   ∃ G1,Lens H F w b (o+1) G1 x.b (λy=>upd ⟨x.a,y,x.c,x.ins⟩):=by
 have h':Lens H F w b o G (x.a,x.b,x.c,x.ins) (λp:Raw×Raw×Raw×RIns=>upd ⟨p.1,p.2.1,p.2.2.1,p.2.2.2⟩):=⟨h.here,h.sub,λw' G' y' hc hO hs=>h.back w' G' _ hc hO hs⟩;obtain ⟨G0,h'⟩:=h'.snd;obtain ⟨G1,h'⟩:=h'.fst;exact ⟨_,h'⟩
theorem zh8 {γ:Type} {H:List Nat→World→γ→Prop} {F:List Nat} {w:World} {b o:Nat} {G:List Nat} {x:DEm} {upd:DEm→γ} (h:Lens H F w b o G x upd) :
   ∃ G1,Lens H F w b (o+3) G1 x.ins (λy=>upd ⟨x.a,x.b,x.c,y⟩):=by
 have h':Lens H F w b o G (x.a,x.b,x.c,x.ins) (λp:Raw×Raw×Raw×RIns=>upd ⟨p.1,p.2.1,p.2.2.1,p.2.2.2⟩):=⟨h.here,h.sub,λw' G' y' hc hO hs=>h.back w' G' _ hc hO hs⟩;obtain ⟨G0,h'⟩:=h'.snd;obtain ⟨G1,h'⟩:=h'.snd;obtain ⟨G2,h'⟩:=h'.snd;exact ⟨_,h'⟩
section
variable {P:Program} {w w':World} {lo hi:Nat}
theorem zhh {op arg to:Int} {t0 t1 t2 t3:Value} {t:DTerm} (h0:I64 op) (h1:I64 arg) (h2:I64 to) (ht:OwnI lo hi w (.agg #[t0,t1,t2,t3]) t):OwnI lo hi w (.agg #[.int .i64 op,.int .i64 arg,t0,t1,t2,t3,.int .i64 to]) (⟨op,arg,t,to⟩:DIns):=by
 obtain ⟨F,⟨⟨cs,hr,hv⟩,hnd,hw⟩,hF⟩:=ht
 have hcs:cs=[t0,t1,t2,t3]:=by
   simp only [mkv,Rep.agg,cond_true,Value.agg.injEq] at hv;have:=congrArg Array.toList hv;simpa using this.symm
 subst hcs;refine ⟨F,⟨⟨[.int .i64 op,.int .i64 arg,t0,t1,t2,t3,.int .i64 to],?_,rfl⟩,hnd,hw⟩,hF⟩;have:=zaI (F:=[]) (c1:=[.int .i64 op]) (show rep [] w [.int .i64 op] op from ⟨rfl,rfl,h0⟩) (zaI (F:=[]) (c1:=[.int .i64 arg]) (show rep [] w [.int .i64 arg] arg from ⟨rfl,rfl,h1⟩) (zaI hr (show rep [] w [.int .i64 to] to from ⟨rfl,rfl,h2⟩)));simp only [List.nil_append,List.append_nil] at this;exact this
theorem zv5 {X:Nat→Prop} {t g:Nat} {v:Value} {K:Value→Prop} (h:Var P t w g v) (hX:¬X g) (k:K v):RDX P X (Instr.loadAt t (.pointer (some ⟨g,0,none⟩))) w K:=by
 refine ⟨v,λw' hx=>?_,k⟩;obtain ⟨u,h1,h2⟩:=zau (P:=P) (K:=λu=>u=v) (h.keep (hx.block g h.lt hX)) (Ext.refl w') rfl;subst h2;exact h1 w' (Ext.refl w')
theorem zoJ {α β:Type} [Rep α] [Rep β] {e b o g:Nat} {F G:List Nat} {t by_:Nat} {x:RV β e} {upd:RV β e→α} {w2:World} {v':Value} {l':List β} {G':List Nat} {K:World→Prop} (ht:tyI P t=some (1,by_,false)) (hL:Lens (VH g) (g :: F) w b o G x upd) (hlt:∀ c∈g :: F,c<w.heap.size) (hc:Chg G w w2)
   (hR:RowG G' e w2 v' l') (hN:G'.Nodup) (hs:∀ c∈G',c∈G∨c∉g :: F)
   (k:∀ w3,Chg (b :: G) w w3→(∃ F',OAt F' w3 g 0 (upd ⟨v',l'⟩)∧∀ c∈F',c∈g :: F∨c∈G')→K w3):OPU P (Instr.storeAt t (.pointer (some ⟨b,o,none⟩)) v') w2 K:=by
 obtain ⟨cs,⟨rfl,hrow⟩,hr,hn,hw,hb,hwb⟩:=hL.here;have hbl:b<w.heap.size:=hlt b (hL.sub b (by simp));have hbk:w2.heap[b]?=w.heap[b]?:=hc.block b hbl hb;have hwb2:∃ c e,w2.heap[b]?=some (.cells c e (0,0)):=by obtain ⟨c,e,h⟩:=hwb;exact ⟨c,e,by rw [hbk];exact h⟩
 have hbG':b∉G':=λhm=>by
   rcases hs b hm with h | h
   · exact hb h
   exact h (hL.sub b (by simp))
 refine ziU ht hwb2 (za2 hr hbk) hrow.one hR.one λw3 hc3 hr3=>?_
 have hcat:ChgAt b o 1 G w w3:=by
   refine ⟨(hc.mono (by simp +contextual)).trans (hc3.chg.mono (by simp +contextual)),λc e hcc=>?_⟩;obtain ⟨c',h1,h2⟩:=hc3.cell c e (by rw [hbk];exact hcc);exact ⟨c',h1,h2⟩
 have hkeep:∀ c∈G',w3.heap[c]?=w2.heap[c]?:=λc hcm=>hc3.chg.block c (hR.lt c hcm) (by simp;exact λe=>hbG' (e▸hcm));obtain ⟨c',e',hc'⟩:=hwb2;obtain ⟨c'',hc'',_⟩:=hc3.cell c' e' hc';obtain ⟨F',h1,h2⟩:=hL.back w3 G' ⟨v',l'⟩ hcat ⟨[v'],⟨rfl,hR.keep hkeep⟩,hr3,hN,(hR.keep hkeep).wr,hbG',c'',e',hc''⟩ hs;exact k w3 hcat.chg ⟨F',h1,h2⟩
end
end Go.Sh
namespace Go.Proofs.YtakjaofncelghaaGreat
open Go Go.Sh Go.Proofs
open Rep (rep)
def F126 (a0 a1:Value) (w:World) (R:VW):Prop:=
 oX 118 a1 w λx3 w=>
 (λw=>XR λX=>NIL a0 <|
 RDX tp X (Instr.fieldAt 157 a0 1) w λx8=>
 RDX tp X (Instr.loadAt 26 x8) w λx9=>
 RDX tp X (Instr.loadAt 118 x3) w λx10=>
 (λw_=>oP (bS 26 x10) w_ λx11 w=>
 ExtX X w_ w ∧
 ((λw_=>oP (aP 26 x9 x11) w_ λx12 w=>
 ExtX X w_ w ∧
 (NIL a0 <|
 RDX tp X (Instr.fieldAt 157 a0 1) w λx14=>
 oS 26 x14 x12 w λw=>
 NIL a0 <|
 rF 157 a0 1 w λx17=>
 rL 26 x17 w λx18=>
 rN 26 3 x18 w λx19=>
 rB .sub 3 T0 U0 x19 (iV 1) w λx20=>
 R x20 w)) w)) w) (World.drew1 w)
def cfg126:Cfg:={ ext:=extL,joins:=[],loops:=[],draws:=[(1,[0,1,2,3,4,5,6,7,8,9,10],192)],pars:=[],xs:=[1] }
theorem F126_call {a0 a1 w R} (h:F126 a0 a1 w R):cL 126 [a0,a1] w R:=co (g:=cfg126) Tryz.func126 h
section
variable {w:World} {lo hi:Nat} {K:Value→Prop}
theorem zoK {a b:Int} {u:Value} {t:DTerm} (ha:I64 a) (hb:I64 b) (hu:OwnI lo hi w u t) (k:∀ v,OwnI lo hi w v (⟨a,b,t,0⟩:DIns)→K v):RD tp (Instr.build 118 #[(0,.int .i64 a),(1,.int .i64 b),(2,u)]) w K:=by
 obtain ⟨p,q,rfl⟩:=zf6 hu.is;exact zaX (cells:=#[.int .i64 a,.int .i64 b,.int .i64 t.kind,.int .i64 t.num,.string t.name,.slice p t.kids.length q,.int .i64 0]) (by kernel_rfl) (k _ (zhh ha hb zjF hu))
theorem zkW {a:Int} {u:Value} {t:DTerm} (ha:I64 a) (hu:OwnI lo hi w u t) (k:∀ v,OwnI lo hi w v (⟨a,0,t,0⟩:DIns)→K v):RD tp (Instr.build 118 #[(0,.int .i64 a),(2,u)]) w K:=by
 obtain ⟨p,q,rfl⟩:=zf6 hu.is;exact zaX (cells:=#[.int .i64 a,.int .i64 0,.int .i64 t.kind,.int .i64 t.num,.string t.name,.slice p t.kids.length q,.int .i64 0]) (by kernel_rfl) (k _ (zhh ha zjF zjF hu))
theorem zgc {a b:Int} (ha:I64 a) (hb:I64 b) (k:∀ v,OwnI lo hi w v (⟨a,b,term0,0⟩:DIns)→K v):RD tp (Instr.build 118 #[(0,.int .i64 a),(1,.int .i64 b)]) w K:=
 zaX (cells:=#[.int .i64 a,.int .i64 b,.int .i64 0,.int .i64 0,.string nO,.slice none 0 0,.int .i64 0]) (by kernel_rfl) (k _ (zhh ha hb zjF zfc))
theorem zqT {a b:Int} (ha:I64 a) (hb:I64 b) (k:∀ v,OwnI lo hi w v (⟨a,0,term0,b⟩:DIns)→K v):RD tp (Instr.build 118 #[(0,.int .i64 a),(3,.int .i64 b)]) w K:=
 zaX (cells:=#[.int .i64 a,.int .i64 0,.int .i64 0,.int .i64 0,.string nO,.slice none 0 0,.int .i64 b]) (by kernel_rfl) (k _ (zhh ha zjF hb zfc))
theorem zjM {a:Int} (ha:I64 a) (k:∀ v,OwnI lo hi w v (⟨a,0,term0,0⟩:DIns)→K v):RD tp (Instr.build 118 #[(0,.int .i64 a)]) w K:=
 zaX (cells:=#[.int .i64 a,.int .i64 0,.int .i64 0,.int .i64 0,.string nO,.slice none 0 0,.int .i64 0]) (by kernel_rfl) (k _ (zhh ha zjF zjF zfc))
end
def EmF (W:World) (g:Nat) (p:DProg) (L:List DIns) (F:List Nat) (w:World):Prop:=
 ∃ c0 c1 c2 rv,Is W (.agg #[c0,c1,c2]) p∧OAt F w g 0 (⟨⟨c0⟩,⟨c1⟩,⟨c2⟩,⟨rv,L⟩⟩:DEm)∧Ext W w∧W.heap.size≤g∧∀ c∈F,W.heap.size≤c
section
variable {W w w':World} {g:Nat} {p:DProg} {L:List DIns} {F:List Nat}
theorem EmF.ext (h:EmF W g p L F w) (hx:Ext w w'):EmF W g p L F w':=by
 obtain ⟨c0,c1,c2,rv,h1,h2,h3,h4⟩:=h;exact ⟨c0,c1,c2,rv,h1,h2.ext hx,h3.trans hx,h4⟩
theorem EmF.old (h:EmF W g p L F w):Ext W w:=by obtain ⟨c0,c1,c2,rv,h1,h2,h3,h4⟩:=h;exact h3
theorem EmF.lt (h:EmF W g p L F w):g<w.heap.size∧(∀ c∈F,c<w.heap.size)∧W.heap.size≤g∧g∉F∧∀ c∈F,W.heap.size≤c:=by
 obtain ⟨c0,c1,c2,rv,h1,h2,h3,h4,h5⟩:=h;have:=h2.lts;obtain ⟨_,_,_,_,_,h6,_⟩:=h2;exact ⟨this g (by simp),λc hc=>this c (by simp [hc]),h4,h6,h5⟩
theorem EmF.keep (h:EmF W g p L F w) (hk:∀ c∈g :: F,w'.heap[c]?=w.heap[c]?) (hx:Ext W w'):EmF W g p L F w':=by
 obtain ⟨c0,c1,c2,rv,h1,h2,h3,h4⟩:=h;exact ⟨c0,c1,c2,rv,h1,h2.keep hk,hx,h4⟩
theorem zhi {c0 c1 c2:Value} (h:Is W (.agg #[c0,c1,c2]) p):Is W c0 p.globals∧Is W c1 p.locks∧Is W c2 p.procs:=by
 obtain ⟨F,cs,hr,hv⟩:=h
 have hcs:cs=[c0,c1,c2]:=by
   simp only [mkv,Rep.agg,cond_true,Value.agg.injEq] at hv;have:=congrArg Array.toList hv;simpa using this.symm
 subst hcs;obtain ⟨F1,F2,x1,x2,rfl,hx,h1,F3,F4,x3,x4,rfl,hx2,h2,h3⟩:=hr;have e1:∃ a,x1=[a]:=by obtain ⟨a,cap,Fi,xs,rfl,_⟩:=h1;exact ⟨_,rfl⟩
 have e2:∃ a,x3=[a]:=by obtain ⟨a,cap,Fi,xs,rfl,_⟩:=h2;exact ⟨_,rfl⟩
 have e3:∃ a,x4=[a]:=by obtain ⟨a,cap,Fi,xs,rfl,_⟩:=h3;exact ⟨_,rfl⟩
 obtain ⟨a1,rfl⟩:=e1;obtain ⟨a2,rfl⟩:=e2;obtain ⟨a3,rfl⟩:=e3;subst hx2;simp only [List.cons_append,List.nil_append,List.cons.injEq,and_true] at hx;obtain ⟨rfl,rfl,rfl⟩:=hx;exact ⟨⟨F1,_,h1,rfl⟩,⟨F3,_,h2,rfl⟩,⟨F4,_,h3,rfl⟩⟩
theorem zxa {K:Value→Prop} (h:EmF W g p L F w) (k:∀ v,Is W v p.globals→K v) :
   RD tp (Instr.fieldAt 157 (.pointer (some ⟨g,0,none⟩)) 0) w λx26=>RD tp (Instr.fieldAt 92 x26 0) w λx27=>RD tp (Instr.loadAt 24 x27) w λx28=>K x28:=by
 obtain ⟨c0,c1,c2,rv,h1,h2,h3,h4,h5⟩:=h;obtain ⟨G1,hL⟩:=zqR (Lens.var h2);obtain ⟨cs,⟨_,rfl,_⟩,hr,_⟩:=hL.here;refine zaa zor ?_;refine zaa zkK ?_;exact zca zc0 hr (k _ (zhi h1).1)
theorem zvk {K:Value→Prop} (h:EmF W g p L F w) (k:∀ v,Is W v p.locks→K v) :
   RD tp (Instr.fieldAt 157 (.pointer (some ⟨g,0,none⟩)) 0) w λx26=>RD tp (Instr.fieldAt 92 x26 1) w λx27=>RD tp (Instr.loadAt 24 x27) w λx28=>K x28:=by
 obtain ⟨c0,c1,c2,rv,h1,h2,h3,h4,h5⟩:=h;obtain ⟨G1,hL⟩:=zqS (Lens.var h2);obtain ⟨cs,⟨_,rfl,_⟩,hr,_⟩:=hL.here;refine zaa zor ?_;refine zaa zmI ?_;exact zca zc0 hr (k _ (zhi h1).2.1)
theorem zvl {K:Value→Prop} (h:EmF W g p L F w) (k:∀ v,Is W v p→K v) :
   RD tp (Instr.fieldAt 157 (.pointer (some ⟨g,0,none⟩)) 0) w λx42=>RD tp (Instr.loadAt 92 x42) w λx43=>K x43:=by
 obtain ⟨c0,c1,c2,rv,h1,h2,h3,h4,h5⟩:=h;refine zaa zor ?_;obtain ⟨F1,cs1,hc1,hr1⟩:=h1
 have hcs:cs1=[c0,c1,c2]:=by
   simp only [mkv,Rep.agg,cond_true,Value.agg.injEq] at hr1;have:=congrArg Array.toList hr1;simpa using this.symm
 subst hcs;obtain ⟨cs,hrr,hrg,_⟩:=h2;obtain ⟨F2,F3,x1,x2,_,rfl,⟨_,rfl,_⟩,F4,F5,x3,x4,_,rfl,⟨_,rfl,_⟩,F6,F7,x5,x6,_,rfl,⟨_,rfl,_⟩,_⟩:=hrr
 have hr3:w.rangeAt g 0 [c0,c1,c2]:=by
   have:([c0]++([c1]++([c2]++x6)))=[c0,c1,c2]++x6:=rfl;rw [this] at hrg;exact (zaz hrg).1
 have hat:At w g (0+0) p:=⟨F1,_,zb8 hc1 h3,hr3⟩;have hatB:AtB W w g (0+0) p:=⟨F1,_,hc1,hr3⟩;exact zen zmH hatB h3 (Ext.refl w) λv hv=>k v hv
theorem zhj {lo hi:Nat} {u:Value} {x:DIns} (h:EmF W g p L F w) (hx:OwnI lo hi w u x) (hgl:g<lo) (hFl:∀ c∈F,c<lo) (hlo:lo≤w.heap.size) (hL:L.length≤1000000) :
   CALL tp 126 [.pointer (some ⟨g,0,none⟩),u] w λr w'=>r=.int .i64 (L.length:Int)∧Chg (g :: F) w w'∧∃ F',EmF W g p (L++[x]) F' w'∧∀ c∈F',c∈F∨lo≤c:=by
 obtain ⟨e1,e2,e3,e4,e5⟩:=h.lt;obtain ⟨GX,hMX,hGX⟩:=hx;refine F126_call ?_;unfold F126;refine zao zbm rfl hMX.is (Ext.refl w) λw1 hx1 hA1 hV1=>?_;have hs1:=hx1.size;have hx2:=zai w1;have hs2:=hx2.size;have hV2:=hV1.ext hx2;have hx12:=hx1.t hx2;generalize World.drew1 w1=w2 at *;have hM2:=hMX.ext hx12;obtain ⟨c0,c1,c2,rv,h1,h2,h3,h4,h5⟩:=h.ext hx12;obtain ⟨G1,hL1⟩:=zh8 (Lens.var h2);obtain ⟨cs1,⟨rfl,hrow⟩,hr1,hnG,_,hg1,_⟩:=hL1.here
 have hGF:∀ c∈G1,c∈F:=λc hc=>by
   rcases List.mem_cons.1 (hL1.sub c (by simp [hc])) with e | h
   · exact absurd (e▸hc) hg1
   exact h
 have hlts:=h2.lts;refine XR.mk (λc=>c∈F) ?_;refine NIL.mk rfl ?_;refine zet zgE ?_;refine zeI zdn hr1 (λh=>e4 h) ?_;refine zv5 hV2 (λh=>by have:=e2 _ h;omega) ?_;refine zd9 (β:=DIns) (G:=G1) u26 zbm zx6 zxB (by decide) hrow hnG hM2 (λc hc hc'=>by have:=hGX c hc;have:=hFl c (hGF c hc');omega) (by rw [zak];show L.length+1≤_;omega) (by show (L.length+1)*_≤_;omega) (λw3 v12 w4 G' hx3 hc4 hR4 hN4 hs4=>?_) λs' w3 hx3 h=>⟨hx3.toX,h⟩;have hs3:=hx3.size;refine ⟨hc4.toX (λc hc=>hGF c hc),?_⟩;refine NIL.mk rfl ?_;refine zet zgE ?_;have hc24:Chg G1 w2 w4:=(hx3.chg G1).trans hc4;refine zoJ zdn hL1 hlts hc24 hR4 hN4 (λc hc=>?_) λw5 hc5 ⟨F',hO5,hF5⟩=>?_
 · rcases hs4 c hc with h | h | h
   · exact .inl h
   · refine .inr λhm=>?_
     have:=hGX c h;rcases List.mem_cons.1 hm with e | hm
     · omega
     have:=hFl c hm;omega
   exact .inr λhm=>by have:=hlts c hm;omega
 have hgF5:g∉F':=by obtain ⟨_,_,_,_,_,hn,_⟩:=hO5;exact hn
 have hc25:Chg (g :: F) w w5:=(hx12.chg _).trans (hc5.mono λc hc=>by
   rcases List.mem_cons.1 hc with rfl | hc
   · simp
   simp [hGF c hc])
 refine NIL.mk rfl ?_;refine zaa zgE ?_;refine zab (α:=RIns) zdn (zlO hO5.at) (Ext.refl w5) λv18 k18=>?_;obtain ⟨q18,h18⟩:=zku k18;have q18:v18=v12:=q18;have h18:Is w5 v12 (L++[x]):=h18;rw [q18];refine zae u26 h18 ?_;have hln:((L++[x]).length:Int)=(L.length:Int)+1:=by simp
 refine za0 (by show I64 (((L++[x]).length:Int)-1);rw [hln];unfold I64;omega) ?_;refine ⟨?_,hc25,F',⟨c0,c1,c2,v12,h1,hO5,h.old.chgL hc25 (λc hc=>?_),h4,λc hc=>?_⟩,λc hc=>?_⟩
 · show Value.int .i64 (((L++[x]).length:Int)-1)=_
   rw [hln];congr 1;omega
 · rcases List.mem_cons.1 hc with rfl | hc
   · exact h4
   exact e5 c hc
 · rcases hF5 c hc with h | h
   · rcases List.mem_cons.1 h with rfl | h
     · exact absurd hc hgF5
     exact e5 c h
   rcases hs4 c h with h | h | h
   · exact e5 c (hGF c h)
   · have:=hGX c h;omega
   omega
 rcases hF5 c hc with h | h
 · rcases List.mem_cons.1 h with rfl | h
   · exact absurd hc hgF5
   exact .inl h
 rcases hs4 c h with h | h | h
 · exact .inl (hGF c h)
 · exact .inr (hGX c h).1
 exact .inr (by omega)
theorem ziW {A R:List DIns} {y:DIns} {k:Nat} {K:World→Prop} (h:EmF W g p (A++y :: R) F w) (hk:A.length=k) (hL:(A++y :: R).length≤1000000)
   (kk:∀ w' F',Chg (g :: F) w w'→EmF W g p (A++(⟨y.op,y.arg,y.term,((A++y :: R).length:Int)⟩:DIns) :: R) F' w'→(∀ c∈F',c∈F)→K w') :
   NIL (.pointer (some ⟨g,0,none⟩))<|RD tp (Instr.fieldAt 157 (.pointer (some ⟨g,0,none⟩)) 1) w λx110=>RD tp (Instr.loadAt 26 x110) w λx111=>
     NIL (.pointer (some ⟨g,0,none⟩))<|RD tp (Instr.fieldAt 157 (.pointer (some ⟨g,0,none⟩)) 1) w λx115=>RD tp (Instr.loadAt 26 x115) w λx116=>
     RD tp (Builtin.len_ #[26] 3 [x116].toArray) w λx117=>RD tp (Instr.indexAt 26 x111 (.int .i64 (k:Int))) w λx118=>RD tp (Instr.fieldAt 118 x118 3) w λx119=>
     OPU tp (Instr.storeAt 3 x119 x117) w λw=>K w:=by
 obtain ⟨e1,e2,e3,e4,e5⟩:=h.lt;obtain ⟨c0,c1,c2,rv,h1,h2,h3,h4,h5⟩:=h;have hlts:=h2.lts;have hkl:k<(A++y :: R).length:=by simp;omega
 obtain ⟨G1,hL1⟩:=zh8 (Lens.var h2);obtain ⟨cs1,⟨rfl,hrow⟩,hr1,_⟩:=hL1.here;obtain ⟨b2,a2,cap2,G2,hv2,hG21,hL2⟩:=hL1.elemV (k:=k) hkl;refine NIL.mk rfl ?_;refine zaa zgE ?_;refine zca zdn hr1 ?_;refine NIL.mk rfl ?_;refine zaa zgE ?_;refine zca zdn hr1 ?_;refine zae u26 (show Is w rv (A++y :: R) from hrow.own.is) ?_;refine zv4 u26 zbm hv2 hkl ?_;obtain ⟨G3,hL3⟩:=zoj hL2;refine zaa zcC ?_;refine ziK ty3 hL3 (zbh (by unfold I64;omega)) (by simp) λw' hc ⟨F',hO,hF'⟩=>?_;have hgF':g∉F':=by obtain ⟨_,_,_,_,_,hn,_⟩:=hO;exact hn
 have hF:∀ c∈F',c∈F:=λc hcm=>by
   rcases hF' c hcm with h | h
   · rcases List.mem_cons.1 h with rfl | h
     · exact absurd hcm hgF'
     exact h
   simp at h
 refine kk w' F' hc ⟨c0,c1,c2,rv,h1,?_,h3.chgL hc λc hcm=>?_,h4,λc hcm=>e5 c (hF c hcm)⟩ hF
 · have hO:OAt F' w' g 0 (⟨⟨c0⟩,⟨c1⟩,⟨c2⟩,⟨rv,(A++y :: R).set k ⟨((A++y :: R)[k]'hkl).op,((A++y :: R)[k]'hkl).arg,((A++y :: R)[k]'hkl).term,((A++y :: R).length:Int)⟩⟩⟩:DEm):=hO
   rw [zlL hk,zh6 hk hkl] at hO;exact hO
 rcases List.mem_cons.1 hcm with rfl | hcm
 · exact e3
 exact e5 c hcm
end
def F125 (a0 a1:Value) (w:World) (R:VW):Prop:=
 LOOPI [4] [(iV 0)] w λu1 w n1=>
 rN 158 3 a1 w λx11=>
 rC (u1 4) x11 w λx12=>
 BR x12
 (rX 158 a1 (u1 4) w λx17=>
 rL 166 x17 w λx18=>
 oP (aL 166) w λx5 w=>
 oS 166 x5 x18 w λw=>
 rF 166 x5 0 w λx19=>
 rL 3 x19 w λx20=>
 rQ x20 (iV 1) w λx22=>
 BR x22
 ((λw=>NIL a0 <|
 rF 157 a0 0 w λx26=>
 rF 92 x26 0 w λx27=>
 rL 24 x27 w λx28=>
 rF 166 x5 1 w λx29=>
 rL 9 x29 w λx30=>
 rF 166 x5 2 w λx32=>
 rL 116 x32 w λx33=>
 (λw_=>cL 89 [x28,x30] w_ λx31 w=>
 Ext w_ w ∧
 (λw_=>cL 193 [x33] w_ λx34 w=>
 Ext w_ w ∧
 rD (Instr.build 118 #[(0,(iV 1)),(1,x31),(2,x34)]) w λx35=>
 cL 126 [a0,x35] w λx36 w=>
 rI (u1 4) w λx14=>
 n1 [x14] w) w) w) (World.drew1 w))
 (rQ x20 (iV 4) w λx38=>
 BR x38
 ((λw=>NIL a0 <|
 rF 157 a0 0 w λx42=>
 rL 92 x42 w λx43=>
 rF 166 x5 1 w λx44=>
 rL 9 x44 w λx45=>
 (λw_=>cL 192 [x43,x45] w_ λx46 w=>
 Ext w_ w ∧
 rD (Instr.build 118 #[(0,(iV 4)),(1,x46)]) w λx47=>
 cL 126 [a0,x47] w λx48 w=>
 rI (u1 4) w λx14=>
 n1 [x14] w) w) (World.drew1 w))
 (rQ x20 (iV 5) w λx50=>
 BR x50
 ((λw=>NIL a0 <|
 rF 157 a0 0 w λx54=>
 rL 92 x54 w λx55=>
 rF 166 x5 1 w λx56=>
 rL 9 x56 w λx57=>
 (λw_=>cL 192 [x55,x57] w_ λx58 w=>
 Ext w_ w ∧
 rD (Instr.build 118 #[(0,(iV 5)),(1,x58)]) w λx59=>
 cL 126 [a0,x59] w λx60 w=>
 rI (u1 4) w λx14=>
 n1 [x14] w) w) (World.drew1 w))
 (rQ x20 (iV 6) w λx62=>
 BR x62
 ((λw=>NIL a0 <|
 rF 157 a0 0 w λx66=>
 rF 92 x66 1 w λx67=>
 rL 24 x67 w λx68=>
 rF 166 x5 1 w λx69=>
 rL 9 x69 w λx70=>
 (λw_=>cL 89 [x68,x70] w_ λx71 w=>
 Ext w_ w ∧
 rD (Instr.build 118 #[(0,(iV 6)),(1,x71)]) w λx72=>
 cL 126 [a0,x72] w λx73 w=>
 rI (u1 4) w λx14=>
 n1 [x14] w) w) (World.drew1 w))
 (rQ x20 (iV 7) w λx75=>
 BR x75
 ((λw=>NIL a0 <|
 rF 157 a0 0 w λx79=>
 rF 92 x79 1 w λx80=>
 rL 24 x80 w λx81=>
 rF 166 x5 1 w λx82=>
 rL 9 x82 w λx83=>
 (λw_=>cL 89 [x81,x83] w_ λx84 w=>
 Ext w_ w ∧
 rD (Instr.build 118 #[(0,(iV 7)),(1,x84)]) w λx85=>
 cL 126 [a0,x85] w λx86 w=>
 rI (u1 4) w λx14=>
 n1 [x14] w) w) (World.drew1 w))
 (rQ x20 (iV 8) w λx88=>
 BR x88
 (rD (Instr.build 118 #[(0,(iV 8))]) w λx90=>
 cL 126 [a0,x90] w λx91 w=>
 rI (u1 4) w λx14=>
 n1 [x14] w)
 (rQ x20 (iV 3) w λx93=>
 BR x93
 (rF 166 x5 2 w λx95=>
 rL 116 x95 w λx96=>
 cL 193 [x96] w λx97 w=>
 rD (Instr.build 118 #[(0,(iV 2)),(2,x97)]) w λx98=>
 cL 126 [a0,x98] w λx99 w=>
 rF 166 x5 3 w λx101=>
 rL 158 x101 w λx102=>
 cL 125 [a0,x102] w λx103 w=>
 rD (Instr.build 118 #[(0,(iV 3)),(3,x99)]) w λx106=>
 cL 126 [a0,x106] w λx107 w=>
 (λw=>NIL a0 <|
 rF 157 a0 1 w λx110=>
 rL 26 x110 w λx111=>
 NIL a0 <|
 rF 157 a0 1 w λx115=>
 rL 26 x115 w λx116=>
 rN 26 3 x116 w λx117=>
 rX 26 x111 x99 w λx118=>
 rF 118 x118 3 w λx119=>
 oS 3 x119 x117 w λw=>
 rI (u1 4) w λx14=>
 n1 [x14] w) (World.drew1 w))
 (rQ x20 (iV 2) w λx121=>
 BR x121
 (rF 166 x5 2 w λx123=>
 rL 116 x123 w λx124=>
 cL 193 [x124] w λx125 w=>
 rD (Instr.build 118 #[(0,(iV 2)),(2,x125)]) w λx126=>
 cL 126 [a0,x126] w λx127 w=>
 rF 166 x5 3 w λx129=>
 rL 158 x129 w λx130=>
 cL 125 [a0,x130] w λx131 w=>
 rF 166 x5 4 w λx132=>
 rL 158 x132 w λx133=>
 rN 158 3 x133 w λx134=>
 rB .gtr 3 T0 U0 x134 (iV 0) w λx135=>
 BR x135
 (rD (Instr.build 118 #[(0,(iV 3))]) w λx137=>
 cL 126 [a0,x137] w λx138 w=>
 (λw=>NIL a0 <|
 rF 157 a0 1 w λx141=>
 rL 26 x141 w λx142=>
 NIL a0 <|
 rF 157 a0 1 w λx146=>
 rL 26 x146 w λx147=>
 rN 26 3 x147 w λx148=>
 rX 26 x142 x127 w λx149=>
 rF 118 x149 3 w λx150=>
 oS 3 x150 x148 w λw=>
 rF 166 x5 4 w λx152=>
 rL 158 x152 w λx153=>
 cL 125 [a0,x153] w λx154 w=>
 (λw=>NIL a0 <|
 rF 157 a0 1 w λx157=>
 rL 26 x157 w λx158=>
 NIL a0 <|
 rF 157 a0 1 w λx162=>
 rL 26 x162 w λx163=>
 rN 26 3 x163 w λx164=>
 rX 26 x158 x138 w λx165=>
 rF 118 x165 3 w λx166=>
 oS 3 x166 x164 w λw=>
 rI (u1 4) w λx14=>
 n1 [x14] w) (World.drew1 w)) (World.drew1 w))
 ((λw=>NIL a0 <|
 rF 157 a0 1 w λx169=>
 rL 26 x169 w λx170=>
 NIL a0 <|
 rF 157 a0 1 w λx174=>
 rL 26 x174 w λx175=>
 rN 26 3 x175 w λx176=>
 rX 26 x170 x127 w λx177=>
 rF 118 x177 3 w λx178=>
 oS 3 x178 x176 w λw=>
 rI (u1 4) w λx14=>
 n1 [x14] w) (World.drew1 w)))
 (rI (u1 4) w λx14=>
 n1 [x14] w)))))))))
 (R (Value.tuple #[]) w)
theorem F125_call {a0 a1 w R} (h:F125 a0 a1 w R):cL 125 [a0,a1] w R:=co (g:=(kf [] [(1,766247770432944429179173513575154591809369561091801072,[4])] [(6,[0,1,2,3,4,5,6,7,9,10,8,11,12,13],2304),(8,[0,1,2,3,4,5,6,7,8,9],128),(10,[0,1,2,3,4,5,6,7,8,9],128),(12,[0,1,2,3,4,5,6,7,8,9,10],256),(14,[0,1,2,3,4,5,6,7,8,9,10],256),(21,[0,1,2,3,4,5,6,7,8,9,10,11,12],0),(27,[0,1,2,3,4,5,6,7,8,9,10,11,12],0),(29,[0,1,2,3,4,5,6,7,8,9,10,11,12],0),(30,[0,1,2,3,4,5,6,7,8,9,10,11,12],0)])) Tryz.func125 h
theorem zfz (G L P:List ByteArray) (x:DStmt) (a:Nat):emS G L P x a =
   if x.kind=1 then [⟨1,plc x.name G,x.term,0⟩]
   else if x.kind=4 then [⟨4,plc x.name P,term0,0⟩]
   else if x.kind=5 then [⟨5,plc x.name P,term0,0⟩]
   else if x.kind=6 then [⟨6,plc x.name L,term0,0⟩]
   else if x.kind=7 then [⟨7,plc x.name L,term0,0⟩]
   else if x.kind=8 then [⟨8,0,term0,0⟩]
   else if x.kind=3 then ⟨2,0,x.term,((a+1+(emL G L P x.body (a+1)).length+1:Nat):Int)⟩ :: (emL G L P x.body (a+1)++[⟨3,0,term0,(a:Int)⟩])
   else if x.kind=2 then
     (if x.els.length=0 then ⟨2,0,x.term,((a+1+(emL G L P x.body (a+1)).length:Nat):Int)⟩ :: emL G L P x.body (a+1)
     else ⟨2,0,x.term,((a+1+(emL G L P x.body (a+1)).length+1:Nat):Int)⟩ :: (emL G L P x.body (a+1) ++
       (⟨3,0,term0,((a+1+(emL G L P x.body (a+1)).length+1+(emL G L P x.els (a+1+(emL G L P x.body (a+1)).length+1)).length:Nat):Int)⟩ :: emL G L P x.els (a+1+(emL G L P x.body (a+1)).length+1))))
   else []:=by cases x;rw [emS];rfl
section
variable (G L P:List ByteArray)
mutual
theorem zsC:∀ (x:DStmt) (a:Nat),(emS G L P x a).length≤2*szS x
  | .mk k n t b e,a=>by
    have h1:=zh9 b (a+1);have h2:=zh9 e (a+1+(emL G L P b (a+1)).length+1);rw [emS,szS]
    repeat' split
    all_goals simp only [List.length_cons,List.length_nil,List.length_append];omega
theorem zh9:∀ (l:List DStmt) (a:Nat),(emL G L P l a).length≤2*szL l
  | [],a=>by rw [emL];simp
  | x :: l,a=>by
    have h1:=zsC x a;have h2:=zh9 l (a+(emS G L P x a).length);rw [emL,szL,List.length_append];omega
end
end
theorem zv6 (x:DStmt):szS x=1+szL x.body+szL x.els:=by cases x;rw [szS];rfl
theorem zdM {g:Nat} {F F1:List Nat} {w w1 w2:World} (h:Chg (g :: F) w w1) (k:Chg (g :: F1) w1 w2) (hF:∀ c∈F1,c∈F∨w.heap.size≤c):Chg (g :: F) w w2:=
 ⟨k.os.trans h.os,k.tape.trans h.tape,k.output.trans h.output,Nat.le_trans h.size k.size,λb hb hn=>(k.block b (Nat.lt_of_lt_of_le hb h.size) λhm=>by
   simp only [List.mem_cons,not_or] at hn;rcases List.mem_cons.1 hm with e | hm
   · exact hn.1 e
   rcases hF b hm with h | h
   · exact hn.2 h
   omega).trans (h.block b hb hn)⟩
theorem zxb {W w:World} {b:Nat} {x:DStmt} (h:AtB W w b 0 x):AtB W w b (0+6) x.body:=by
 obtain ⟨F,cs,hr,hc⟩:=h;have h:AtB W w b 0 x.tup:=⟨F,cs,zeE.1 hr,hc⟩;exact h.snd.snd.snd.fst
theorem zxc {W w:World} {b:Nat} {x:DStmt} (h:AtB W w b 0 x):AtB W w b (0+7) x.els:=by
 obtain ⟨F,cs,hr,hc⟩:=h;have h:AtB W w b 0 x.tup:=⟨F,cs,zeE.1 hr,hc⟩;exact h.snd.snd.snd.snd
theorem zpT {W:World} {v:Value} {p:DProg} (h:Is W v p):p.procs.length≤9223372036854775807:=by
 obtain ⟨F,cs,hr,hv⟩:=h;obtain ⟨F1,F2,x1,x2,rfl,hx,h1,F3,F4,x3,x4,rfl,hx2,h2,h3⟩:=hr;obtain ⟨a,cap,Fi,xs,_,q1,q2,_⟩:=h3;have q1:p.procs.length≤cap:=q1;rw [zak] at q2;omega
def zoL (pr:List ByteArray) (n:Nat) (l:List DStmt):Prop:=∀ {W w:World} {g:Nat} {p:DProg} {L:List DIns} {F:List Nat} {v:Value},EmF W g p L F w→Is W v l→(∀ x∈l,StR pr n x)→L.length+2*szL l≤1000000 →
 CALL tp 125 [.pointer (some ⟨g,0,none⟩),v] w λr w'=>Chg (g :: F) w w'∧∃ F',EmF W g p (L++emL p.globals p.locks (p.procs.map DProc.name) l L.length) F' w'∧∀ c∈F',c∈F∨w.heap.size≤c
def zxX (W w:World) (g:Nat) (p:DProg) (L:List DIns) (F:List Nat) (l:List DStmt) (k:Nat) (us:List Value) (w':World):Prop:=
 us=[.int .i64 (k:Int)]∧∃ L1 F1,k≤l.length∧L++emL p.globals p.locks (p.procs.map DProc.name) l L.length=L1++emL p.globals p.locks (p.procs.map DProc.name) (l.drop k) L1.length∧L1.length+2*szL (l.drop k)≤1000000 ∧
   Chg (g :: F) w w'∧EmF W g p L1 F1 w'∧∀ c∈F1,c∈F∨w.heap.size≤c
theorem zhk {pr:List ByteArray} {n:Nat} {l:List DStmt} (ih:∀ m l,m+1=n→zoL pr m l) (inil:∀ m,zoL pr m []):zoL pr n l:=by
 intro W w g p L F v hE h hs hlen;have hln:=zah h;obtain ⟨-,e2,e3,e4,e5⟩:=hE.lt;have e1:=hE.lt.1;refine F125_call ?_;unfold F125;refine zat l.length (zxX W w g p L F l) 0 (z0 _) ⟨rfl,L,F,z0 _,by simp,by simpa using hlen,Chg.refl _ _,hE,λc hc=>.inl hc⟩ ?_;rintro k m u w1 hkm ⟨hu,L1,F1,hkl,heq,hlen1,hc1,hE1,hF1⟩;try replace hu:=zbG hu
 rw [hu];have hsz1:=hc1.size;refine zae ze5 h ?_;refine zaf ?_;refine br (λhlt=>?_) (λhge=>?_)
 rotate_left
 · have hk:k=l.length:=by omega
   subst hk;rw [List.drop_length,emL,List.append_nil] at heq;rw [heq];exact ⟨hc1,F1,hE1,hF1⟩
 have hk:k<l.length:=by omega
 obtain ⟨x,hx⟩:∃ x,x=l[k]:=⟨_,rfl⟩;have hxs:StR pr n x:=by rw [hx];exact hs _ (List.getElem_mem hk)
 have hdr:l.drop k=x :: l.drop (k+1):=by rw [hx];exact List.drop_eq_getElem_cons hk
 rw [hdr,emL] at heq;rw [hdr,szL] at hlen1;have hel:=zsC p.globals p.locks (p.procs.map DProc.name) x L1.length;have hszx:=zv6 x
 have hfin:∀ w' F2,Chg (g :: F) w w'→EmF W g p (L1++emS p.globals p.locks (p.procs.map DProc.name) x L1.length) F2 w'→(∀ c∈F2,c∈F∨w.heap.size≤c) →
     ∃ m',m'<m∧∃ k',k'+m'=l.length∧zxX W w g p L F l k' [.int .i64 ((k+1:Nat):Int)] w':=λw' F2 hc hE hF=>
   ⟨m-1,by omega,k+1,by omega,rfl,_,F2,by omega,by rw [heq,List.length_append,List.append_assoc],by rw [List.length_append];omega,hc,hE,hF⟩
 obtain ⟨f1,f2,f3,f4,f5⟩:=hE1.lt;have hW1:=hE1.old;refine zad ze5 zbO h hk λb17 o17 hA17=>?_;rw [←hx] at hA17;refine zab zbO hA17 hW1 λv18 h18=>?_;refine zcX zr8 rfl zbO rfl h18 hW1 λw2 hx2 hA5 hV5=>?_;have hs2:=hx2.size;have hg5:=hV5.lt;have hE2:=hE1.ext hx2;have hB5:=zfI h18 hV5 rfl;have hc2:Chg (g :: F) w w2:=hc1.trans (hx2.chg _)
 have hkind:(x.kind=1∨x.kind=2∨x.kind=3)→TmR x.term:=λhq=>by
   have h0:St0 pr x→TmR x.term:=λq=>by
     rcases q with q | q | q | q
     · exact q.2.2.1
     · have:=q.1;omega
     · have:=q.1;omega
     have:=q.1;omega
   cases n with
   | zero=>exact h0 hxs.zero
   | succ n=>
     rcases hxs.succ with q | ⟨_,_,h3,_⟩
     · exact h0 q
     exact h3
 have hkid:∃ q,(∀ y∈x.body,StR pr q y)∧(∀ y∈x.els,StR pr q y)∧zoL pr q x.body∧zoL pr q x.els:=by
   have h0:St0 pr x→x.body=[]∧x.els=[]:=λh=>by rcases h with q | q | q | q<;>exact ⟨q.2.2.2.1,q.2.2.2.2⟩
   cases n with
   | zero=>
     obtain ⟨h1,h2⟩:=h0 hxs.zero;rw [h1,h2];exact ⟨0,by simp,by simp,inil 0,inil 0⟩
   | succ n=>
     rcases hxs.succ with q | ⟨_,_,_,h4,h5⟩
     · obtain ⟨h1,h2⟩:=h0 q
       rw [h1,h2];exact ⟨0,by simp,by simp,inil 0,inil 0⟩
     exact ⟨n,h4,h5,ih n _ rfl,ih n _ rfl⟩
 obtain ⟨q,hqb,hqe,ihb,ihe⟩:=hkid;have hat2:=hB5.at hE2.old;refine zaa zeR ?_;refine zac ty3 (zcy hat2) (Ext.refl _) λhI20=>?_
 -- an instruction of one's own behind what there is
 have hput:∀ {w3:World} {lo hi:Nat} {u:Value} {y:DIns} {K:Value→World→Prop},Ext w2 w3→OwnI lo hi w3 u y→w1.heap.size≤lo→lo≤w3.heap.size →
     (∀ w4 F4,Chg (g :: F) w w4→EmF W g p (L1++[y]) F4 w4→(∀ c∈F4,c∈F1∨w1.heap.size≤c)→AtB W w4 w1.heap.size 0 x→w1.heap.size<w4.heap.size→w1.heap.size∉F4∨lo≤w1.heap.size→K (.int .i64 (L1.length:Int)) w4)→CALL tp 126 [.pointer (some ⟨g,0,none⟩),u] w3 K:=by
   intro w3 lo hi u y K hx3 ho h1 h2 hK;have hs3:=hx3.size;refine (zhj (hE2.ext hx3) ho (by omega) (λc hc=>by have:=f2 c hc;omega) h2 (by omega)).mono ?_;rintro _ w4 ⟨rfl,hc4,F4,hE4,hF4⟩;have hs4:=hc4.size;refine hK w4 F4 (zdM (hc2.trans (hx3.chg _)) hc4 hF1) hE4 (λc hc=>(hF4 c hc).imp id λh=>by omega) ((hB5.ext hx3).keep (hc4.block _ (by omega) λhm=>?_)) (by omega) ?_
   · rcases List.mem_cons.1 hm with e | hm
     · omega
     have:=f2 _ hm;omega
   rcases Nat.lt_or_ge w1.heap.size lo with hl | hl
   · refine .inl λhm=>?_
     rcases hF4 _ hm with h | h
     · have:=f2 _ h;omega
     omega
   exact .inr hl
 refine zag ?_;refine br (λk1=>?_) (λk1=>?_)
 · have hx3:=zai w2
   have hE3:=hE2.ext hx3;refine NIL.mk rfl ?_;refine zxa hE3 λv28 h28=>?_;refine zaa zcL ?_;refine zaq ty9 (zbo hat2) hx3 λhS=>?_;refine zaa zfH ?_;refine zab za4 (zdc hat2) hx3 λv33 h33=>?_;refine (zb9 h28 hE3.old).mono ?_;rintro _ w4 ⟨hx4,rfl⟩;refine ⟨hx4,?_⟩;have hw24:=(hkind (.inl k1)).2.2;refine (zh7 _ h33 (hx3.t hx4) (by omega)).mono ?_;rintro v34 w5 ⟨hx5,o34⟩;have o34:=o34.toI;have hs3:=hx3.size;have hs4:=hx4.size;have hs5:=hx5.size;refine ⟨hx5,?_⟩;have hpl:=zjq (s:=x.name) (l:=p.globals);have hpl2:=zah h28;refine zoK (by unfold I64;omega) (by unfold I64;omega) o34 λv35 o35=>?_;refine hput (hx3.t (hx4.t hx5)) o35 (by omega) (by omega) λw6 F6 hc6 hE6 hF6 _ _ _=>?_;refine zaB ?_;refine hfin w6 F6 hc6 ?_ λc hc=>(hF6 c hc).elim (hF1 c) λh=>.inr (by omega);rw [zfz,if_pos k1];exact hE6
 refine zag ?_;refine br (λk4=>?_) (λk4=>?_)
 · have hx3:=zai w2
   have hE3:=hE2.ext hx3;have hs3:=hx3.size;refine NIL.mk rfl ?_;refine zvl hE3 λv28 h28=>?_;refine zaa zcL ?_;refine zaq ty9 (zbo hat2) hx3 λhS=>?_;refine (zjL h28 hE3.old).mono ?_;rintro _ w4 ⟨hx4,rfl⟩;have hs4:=hx4.size;refine ⟨hx4,?_⟩;have hpl:=zjq (s:=x.name) (l:=p.procs.map DProc.name);have hpl2:p.procs.length≤9223372036854775807:=zpT h28;rw [List.length_map] at hpl;refine zgc (lo:=w4.heap.size) (hi:=w4.heap.size) (by unfold I64;omega) (by unfold I64;omega) λv35 o35=>?_;refine hput (hx3.t hx4) o35 (by omega) (by omega) λw6 F6 hc6 hE6 hF6 _ _ _=>?_;refine zaB ?_;refine hfin w6 F6 hc6 ?_ λc hc=>(hF6 c hc).elim (hF1 c) λh=>.inr (by omega);rw [zfz,if_neg k1,if_pos k4];exact hE6
 refine zag ?_;refine br (λk5=>?_) (λk5=>?_)
 · have hx3:=zai w2
   have hE3:=hE2.ext hx3;have hs3:=hx3.size;refine NIL.mk rfl ?_;refine zvl hE3 λv28 h28=>?_;refine zaa zcL ?_;refine zaq ty9 (zbo hat2) hx3 λhS=>?_;refine (zjL h28 hE3.old).mono ?_;rintro _ w4 ⟨hx4,rfl⟩;have hs4:=hx4.size;refine ⟨hx4,?_⟩;have hpl:=zjq (s:=x.name) (l:=p.procs.map DProc.name);have hpl2:p.procs.length≤9223372036854775807:=zpT h28;rw [List.length_map] at hpl;refine zgc (lo:=w4.heap.size) (hi:=w4.heap.size) (by unfold I64;omega) (by unfold I64;omega) λv35 o35=>?_;refine hput (hx3.t hx4) o35 (by omega) (by omega) λw6 F6 hc6 hE6 hF6 _ _ _=>?_;refine zaB ?_;refine hfin w6 F6 hc6 ?_ λc hc=>(hF6 c hc).elim (hF1 c) λh=>.inr (by omega);rw [zfz,if_neg k1,if_neg k4,if_pos k5];exact hE6
 refine zag ?_;refine br (λk6=>?_) (λk6=>?_)
 · have hx3:=zai w2
   have hE3:=hE2.ext hx3;have hs3:=hx3.size;refine NIL.mk rfl ?_;refine zvk hE3 λv28 h28=>?_;refine zaa zcL ?_;refine zaq ty9 (zbo hat2) hx3 λhS=>?_;refine (zb9 h28 hE3.old).mono ?_;rintro _ w4 ⟨hx4,rfl⟩;have hs4:=hx4.size;refine ⟨hx4,?_⟩;have hpl:=zjq (s:=x.name) (l:=p.locks);have hpl2:=zah h28;refine zgc (lo:=w4.heap.size) (hi:=w4.heap.size) (by unfold I64;omega) (by unfold I64;omega) λv35 o35=>?_;refine hput (hx3.t hx4) o35 (by omega) (by omega) λw6 F6 hc6 hE6 hF6 _ _ _=>?_;refine zaB ?_;refine hfin w6 F6 hc6 ?_ λc hc=>(hF6 c hc).elim (hF1 c) λh=>.inr (by omega);rw [zfz,if_neg k1,if_neg k4,if_neg k5,if_pos k6];exact hE6
 refine zag ?_;refine br (λk7=>?_) (λk7=>?_)
 · have hx3:=zai w2
   have hE3:=hE2.ext hx3;have hs3:=hx3.size;refine NIL.mk rfl ?_;refine zvk hE3 λv28 h28=>?_;refine zaa zcL ?_;refine zaq ty9 (zbo hat2) hx3 λhS=>?_;refine (zb9 h28 hE3.old).mono ?_;rintro _ w4 ⟨hx4,rfl⟩;have hs4:=hx4.size;refine ⟨hx4,?_⟩;have hpl:=zjq (s:=x.name) (l:=p.locks);have hpl2:=zah h28;refine zgc (lo:=w4.heap.size) (hi:=w4.heap.size) (by unfold I64;omega) (by unfold I64;omega) λv35 o35=>?_;refine hput (hx3.t hx4) o35 (by omega) (by omega) λw6 F6 hc6 hE6 hF6 _ _ _=>?_;refine zaB ?_;refine hfin w6 F6 hc6 ?_ λc hc=>(hF6 c hc).elim (hF1 c) λh=>.inr (by omega);rw [zfz,if_neg k1,if_neg k4,if_neg k5,if_neg k6,if_pos k7];exact hE6
 refine zag ?_;refine br (λk8=>?_) (λk8=>?_)
 · refine zjM (lo:=w2.heap.size) (hi:=w2.heap.size) (by unfold I64;omega) λv35 o35=>?_
   refine hput (Ext.refl w2) o35 (by omega) (by omega) λw6 F6 hc6 hE6 hF6 _ _ _=>?_;refine zaB ?_;refine hfin w6 F6 hc6 ?_ λc hc=>(hF6 c hc).elim (hF1 c) λh=>.inr (by omega);rw [zfz,if_neg k1,if_neg k4,if_neg k5,if_neg k6,if_neg k7,if_pos k8];exact hE6
 have hlb:=zh9 p.globals p.locks (p.procs.map DProc.name) x.body (L1.length+1);refine zag ?_;refine br (λk3=>?_) (λk3=>?_)
 · refine zaa zfH ?_
   refine zab za4 (zdc hat2) (Ext.refl _) λv96 h96=>?_;have hw24:=(hkind (.inr (.inr k3))).2.2;refine (zh7 _ h96 (Ext.refl _) (by omega)).mono ?_;rintro v97 w4 ⟨hx4,o97⟩;have o97:=o97.toI;have hs4:=hx4.size;refine zkW (by unfold I64;omega) o97 λv98 o98=>?_;refine hput hx4 o98 (by omega) (by omega) λw5 F5 hc5 hE5 hF5 hB5' hg5' _=>?_;refine zaa zdV ?_;refine zen zdp (zxb hB5') hE5.old (Ext.refl _) λv102 h102=>?_;refine (ihb hE5 h102 hqb (by simp;omega)).mono ?_;rintro r103 w6 ⟨hc6,F6,hE6,hF6⟩;have hs5:=hc5.size;have hs6:=hc6.size;obtain ⟨z1,z2,z3,z4,z5⟩:=hE6.lt;refine zqT (lo:=w6.heap.size) (hi:=w6.heap.size) (by unfold I64;omega) (by unfold I64;omega) λv106 o106=>?_;refine (zhj hE6 o106 z1 z2 (lr _) (by simp;omega)).mono ?_;rintro r107 w7 ⟨-,hc7,F7,hE7,hF7⟩;have hs7:=hc7.size;have hx8:=zai w7
   have e7:L1++[(⟨2,0,x.term,0⟩:DIns)]++emL p.globals p.locks (p.procs.map DProc.name) x.body (L1++[(⟨2,0,x.term,0⟩:DIns)]).length++[⟨3,0,term0,(L1.length:Int)⟩] =
       L1++(⟨2,0,x.term,0⟩:DIns) :: (emL p.globals p.locks (p.procs.map DProc.name) x.body (L1.length+1)++[⟨3,0,term0,(L1.length:Int)⟩]):=by simp
   rw [e7] at hE7;have hF6':∀ c∈F6,c∈F∨w.heap.size≤c:=λc hc=>(hF6 c hc).elim (λh=>(hF5 c h).elim (hF1 c) λh=>.inr (by omega)) λh=>.inr (by omega);have hF7':∀ c∈F7,c∈F∨w.heap.size≤c:=λc hc=>(hF7 c hc).elim (hF6' c) λh=>.inr (by omega);have hc07:=zdM (zdM hc5 hc6 λc hc=>(hF5 c hc).elim (hF1 c) λh=>.inr (by omega)) hc7 hF6';refine ziW (hE7.ext hx8) rfl (by simp;omega) λw9 F9 hc9 hE9 hF9=>?_;refine zaB ?_;refine hfin w9 F9 (zdM (hc07.trans (hx8.chg _)) hc9 hF7') ?_ λc hc=>hF7' c (hF9 c hc);rw [zfz,if_neg k1,if_neg k4,if_neg k5,if_neg k6,if_neg k7,if_neg k8,if_pos k3]
   have:((L1++(⟨2,0,x.term,0⟩:DIns) :: (emL p.globals p.locks (p.procs.map DProc.name) x.body (L1.length+1)++[⟨3,0,term0,(L1.length:Int)⟩])).length:Int)=((L1.length+1+(emL p.globals p.locks (p.procs.map DProc.name) x.body (L1.length+1)).length+1:Nat):Int):=by
     simp only [List.length_append,List.length_cons,List.length_nil];omega
   rw [this] at hE9;exact hE9
 refine zag ?_;refine br (λk2=>?_) (λk2=>?_)
 rotate_left
 · exfalso
   have h0:St0 pr x→False:=λq=>by rcases q with q | q | q | q<;>(have:=q.1;omega)
   cases n with
   | zero=>exact h0 hxs.zero
   | succ n=>
     rcases hxs.succ with q | ⟨q,_⟩
     · exact h0 q
     omega
 refine zaa zfH ?_;refine zab za4 (zdc hat2) (Ext.refl _) λv124 h124=>?_;have hw24:=(hkind (.inr (.inl k2))).2.2;refine (zh7 _ h124 (Ext.refl _) (by omega)).mono ?_;rintro v125 w4 ⟨hx4,o125⟩;have o125:=o125.toI;have hs4:=hx4.size;refine zkW (by unfold I64;omega) o125 λv126 o126=>?_;refine hput hx4 o126 (by omega) (by omega) λw5 F5 hc5 hE5 hF5 hB5' hg5' hgF5=>?_;have hgF5:w1.heap.size∉F5:=hgF5.elim id λh=>by omega
 have hs5:=hc5.size;refine zaa zdV ?_;refine zen zdp (zxb hB5') hE5.old (Ext.refl _) λv130 h130=>?_;refine (ihb hE5 h130 hqb (by simp;omega)).mono ?_;rintro r131 w6 ⟨hc6,F6,hE6,hF6⟩;have hs6:=hc6.size
 have hB6:=hB5'.keep (hc6.block _ hg5' λhm=>by
   rcases List.mem_cons.1 hm with e | hm
   · omega
   exact hgF5 hm)
 obtain ⟨z1,z2,z3,z4,z5⟩:=hE6.lt;have hF5':∀ c∈F5,c∈F∨w.heap.size≤c:=λc hc=>(hF5 c hc).elim (hF1 c) λh=>.inr (by omega);have hF6':∀ c∈F6,c∈F∨w.heap.size≤c:=λc hc=>(hF6 c hc).elim (hF5' c) λh=>.inr (by omega);have hc06:=zdM hc5 hc6 hF5'
 have e6:L1++[(⟨2,0,x.term,0⟩:DIns)]++emL p.globals p.locks (p.procs.map DProc.name) x.body (L1++[(⟨2,0,x.term,0⟩:DIns)]).length =
     L1++(⟨2,0,x.term,0⟩:DIns) :: emL p.globals p.locks (p.procs.map DProc.name) x.body (L1.length+1):=by simp
 rw [e6] at hE6;obtain ⟨B,hB⟩:∃ B,B=emL p.globals p.locks (p.procs.map DProc.name) x.body (L1.length+1):=⟨_,rfl⟩;rw [←hB] at hE6 hlb;refine zaa zdq ?_;refine zen zdp (zxc hB6) hE6.old (Ext.refl _) λv133 h133=>?_;refine zae ze5 h133 ?_;refine zb1 ?_;refine br (λke=>?_) (λke=>?_)
 · refine zjM (lo:=w6.heap.size) (hi:=w6.heap.size) (by unfold I64;omega) λv137 o137=>?_
   refine (zhj hE6 o137 z1 z2 (lr _) (by simp;omega)).mono ?_;rintro r138 w7 ⟨h138,hc7,F7,hE7,hF7⟩;rw [h138];have hs7:=hc7.size;have hx8:=zai w7;have hs8:=hx8.size;have e7:L1++(⟨2,0,x.term,0⟩:DIns) :: B++[⟨3,0,term0,0⟩]=L1++(⟨2,0,x.term,0⟩:DIns) :: (B++[⟨3,0,term0,0⟩]):=by simp
   rw [e7] at hE7;have hF7':∀ c∈F7,c∈F∨w.heap.size≤c:=λc hc=>(hF7 c hc).elim (hF6' c) λh=>.inr (by omega);have hc07:=zdM hc06 hc7 hF6';have hgF6:w1.heap.size∉F6:=λhm=>(hF6 _ hm).elim hgF5 λh=>by omega
   have hgF7:w1.heap.size∉F7:=λhm=>(hF7 _ hm).elim hgF6 λh=>by omega
   have hB7:=hB6.keep (hc7.block _ (by omega) λhm=>by
     rcases List.mem_cons.1 hm with e | hm
     · omega
     exact hgF6 hm)
   refine ziW (hE7.ext hx8) rfl (by simp;omega) λw9 F9 hc9 hE9 hF9=>?_;have hs9:=hc9.size
   have hB9:=(hB7.ext hx8).keep (hc9.block _ (by omega) λhm=>by
     rcases List.mem_cons.1 hm with e | hm
     · omega
     exact hgF7 hm)
   refine zaa zdq ?_;refine zen zdp (zxc hB9) hE9.old (Ext.refl _) λv153 h153=>?_;obtain ⟨y0,hy0⟩:∃ y0:DIns,y0=⟨2,0,x.term,((L1++(⟨2,0,x.term,0⟩:DIns) :: (B++[⟨3,0,term0,0⟩])).length:Int)⟩:=⟨_,rfl⟩;have hE9:EmF W g p (L1++y0 :: (B++[⟨3,0,term0,0⟩])) F9 w9:=by rw [hy0];exact hE9
   refine (ihe hE9 h153 hqe (by simp;omega)).mono ?_;rintro r154 w10 ⟨hc10,F10,hE10,hF10⟩;have hF9':∀ c∈F9,c∈F∨w.heap.size≤c:=λc hc=>hF7' c (hF9 c hc);have hF10':∀ c∈F10,c∈F∨w.heap.size≤c:=λc hc=>(hF10 c hc).elim (hF9' c) λh=>.inr (by omega);have hc010:=zdM (zdM (hc07.trans (hx8.chg _)) hc9 hF7') hc10 hF9';have hx11:=zai w10;have hle:=zh9 p.globals p.locks (p.procs.map DProc.name) x.els (L1++y0 :: (B++[⟨3,0,term0,0⟩])).length;have hn9:(L1++y0 :: (B++[(⟨3,0,term0,0⟩:DIns)])).length=L1.length+1+B.length+1:=by simp only [List.length_append,List.length_cons,List.length_nil];omega
   rw [hn9] at hE10 hle;obtain ⟨E,hEe⟩:∃ E,E=emL p.globals p.locks (p.procs.map DProc.name) x.els (L1.length+1+B.length+1):=⟨_,rfl⟩;rw [←hEe] at hE10 hle;have e10:L1++y0 :: (B++[(⟨3,0,term0,0⟩:DIns)])++E=(L1++y0 :: B)++(⟨3,0,term0,0⟩:DIns) :: E:=by simp
   rw [e10] at hE10;refine ziW (hE10.ext hx11) (by simp) (by simp only [List.length_append,List.length_cons];omega) λw12 F12 hc12 hE12 hF12=>?_;refine zaB ?_;refine hfin w12 F12 (zdM (hc010.trans (hx11.chg _)) hc12 hF10') ?_ λc hc=>hF10' c (hF12 c hc);rw [zfz,if_neg k1,if_neg k4,if_neg k5,if_neg k6,if_neg k7,if_neg k8,if_neg k3,if_pos k2,if_neg (by omega),←hB,←hEe]
   have q1:y0=⟨2,0,x.term,((L1.length+1+B.length+1:Nat):Int)⟩:=by
     rw [hy0];congr 1;simp only [List.length_append,List.length_cons,List.length_nil];omega
   have q2:(((L1++y0 :: B)++(⟨3,0,term0,0⟩:DIns) :: E).length:Int)=((L1.length+1+B.length+1+E.length:Nat):Int):=by
     simp only [List.length_append,List.length_cons,List.length_nil];omega
   rw [q2,q1] at hE12;simpa using hE12
 have hx8:=zai w6;refine ziW (hE6.ext hx8) rfl (by simp;omega) λw9 F9 hc9 hE9 hF9=>?_;refine zaB ?_;refine hfin w9 F9 (zdM (hc06.trans (hx8.chg _)) hc9 hF6') ?_ λc hc=>hF6' c (hF9 c hc);rw [zfz,if_neg k1,if_neg k4,if_neg k5,if_neg k6,if_neg k7,if_neg k8,if_neg k3,if_pos k2,if_pos (by omega),←hB]
 have:((L1++(⟨2,0,x.term,0⟩:DIns) :: B).length:Int)=((L1.length+1+B.length:Nat):Int):=by
   simp only [List.length_append,List.length_cons,List.length_nil];omega
 rw [this] at hE9;exact hE9
theorem ziz (pr:List ByteArray) (n:Nat):zoL pr n []:=by
 intro W w g p L F v hE h hs hlen;refine F125_call ?_;unfold F125;refine zat 0 (λk us w'=>us=[.int .i64 (k:Int)]∧w'=w) 0 (z0 _) ⟨rfl,rfl⟩ ?_;rintro k m u w1 hkm ⟨hu,rfl⟩;try replace hu:=zbG hu
 rw [hu];refine zae ze5 h ?_;refine zaf ?_;refine br (λhlt=>by simp at hlt;omega) (λhge=>?_);exact ⟨Chg.refl _ _,F,by rw [emL,List.append_nil];exact hE,λc hc=>.inl hc⟩
theorem zjN (pr:List ByteArray):∀ (n:Nat) (l:List DStmt),zoL pr n l
 | 0,l=>zhk (n:=0) (l:=l) (λm l h=>absurd h (by omega)) (ziz pr)
 | n + 1, l => zhk (n := n + 1) (l := l) (λm l h => by
     obtain rfl:m=n:=by omega
     exact zjN pr m l) (ziz pr)
def F71 (a0:Value) (w:World) (R:VW):Prop:=
 oP (aL 92) w λx2 w=>
 oP (Instr.buildSlice 24 4 #[(0,(Value.string (ByteArray.mk #[120]))),(1,(Value.string (ByteArray.mk #[121]))),(2,(Value.string (ByteArray.mk #[122]))),(3,(Value.string (ByteArray.mk #[117])))]) w λx7 w=>
 oP (Instr.buildSlice 24 3 #[(0,(Value.string (ByteArray.mk #[97]))),(1,(Value.string (ByteArray.mk #[98]))),(2,(Value.string (ByteArray.mk #[109])))]) w λx8 w=>
 rD (Instr.build 92 #[(0,x7),(1,x8)]) w λx9=>
 oP (aL 92) w λx3 w=>
 oS 92 x3 x9 w λw=>
 oP (Instr.buildSlice 24 4 #[(0,(Value.string (ByteArray.mk #[109,97,105,110]))),(1,(Value.string (ByteArray.mk #[112]))),(2,(Value.string (ByteArray.mk #[113]))),(3,(Value.string (ByteArray.mk #[114])))]) w λx10 w=>
 cL 35 [a0,(iV 3)] w λx12 w=>
 rB .add 3 U0 T0 (iV 2) x12 w λx13=>
 rD (Instr.sliceAt 24 x10 none (some x13) none) w λx14=>
 LOOPI [5] [(iV 0)] w λu4 w n4=>
 rN 24 3 x14 w λx17=>
 rC (u4 5) x17 w λx18=>
 BR x18
 (cL 127 [a0,(iV 2)] w λx22 w=>
 cL 127 [a0,(iV 1)] w λx24 w=>
 oP (aP 158 x22 x24) w λx25 w=>
 JOIN [6] (λJ9=>
 cL 128 [x25,(iV 50)] w λx27 w=>
 rB .lss 3 T0 U0 x27 (iV 0) w λx28=>
 BR x28
 (rD (Instr.build 166 #[(0,(iV 8))]) w λx29=>
 oP (bS 158 x29) w λx30 w=>
 J9 [x30] w)
 (J9 [x25] w)) (λu9 w=>
 JOIN [6] (λJ11=>
 cL 129 [a0,(iV 2)] w λx32 w=>
 BR x32
 (cL 130 [a0,(u9 6)] w λx35 w=>
 J11 [x35] w)
 (J11 [(u9 6)] w)) (λu11 w=>
 JOIN [6] (λJ13=>
 rQ (u4 5) (iV 0) w λx37=>
 BR x37
 (cL 129 [a0,(iV 2)] w λx40 w=>
 BR x40
 (rX 24 x14 (iV 1) w λx43=>
 rL 9 x43 w λx44=>
 rD (Instr.build 166 #[(0,(iV 5)),(1,x44)]) w λx45=>
 oP (bS 158 x45) w λx46 w=>
 oP (aP 158 x46 (u11 6)) w λx48 w=>
 J13 [x48] w)
 (J13 [(u11 6)] w))
 (J13 [(u11 6)] w)) (λu13 w=>
 (λw=>XR λX=>RDX tp X (Instr.fieldAt 92 x3 2) w λx49=>
 RDX tp X (Instr.loadAt 90 x49) w λx50=>
 RDX tp X (Instr.indexAt 24 x14 (u4 5)) w λx53=>
 RDX tp X (Instr.loadAt 9 x53) w λx54=>
 RDX tp X (Instr.sliceAt 24 x14 (some (iV 1)) none none) w λx58=>
 (λw_=>cL 131 [a0,(u13 6),x58] w_ λx59 w=>
 ExtX X w_ w ∧
 RDX tp X (Instr.build 160 #[(0,x54),(1,x59)]) w λx60=>
 (λw_=>oP (bS 90 x60) w_ λx61 w=>
 ExtX X w_ w ∧
 (oP (aP 90 x50 x61) w λx62 w=>
 RDX tp X (Instr.fieldAt 92 x3 2) w λx63=>
 oS 90 x63 x62 w λw=>
 rI (u4 5) w λx20=>
 n4 [x20] w)) w) w) (World.drew1 w)))))
 (rL 92 x3 w λx64=>
 oS 92 x2 x64 w λw=>
 rD (zaJ 92 x2) w λr2=>R r2 w)
def cfg71:Cfg:={ ext:=extL,joins:=[(9,2080374848,[6]),(11,66571993152,[6]),(13,562881233944640,[6])],loops:=[(4,18446744073709518944,[5])],draws:=[(13,[0,1,2,3,4,5,6,7,8,9,10,11,12,13,14,15],5120)],pars:=[],xs:=[13] }
theorem F71_call {a0 w R} (h:F71 a0 w R):cL 71 [a0] w R:=co (g:=cfg71) Tryz.func71 h
theorem zqU {w:World} {n:ByteArray} {a:Option Addr} {m c:Nat}:(Instr.build 160 #[(0,.string n),(1,.slice a m c)]).run tp w=.ok (.agg #[.string n,.slice a m c]) w:=by
 obtain ⟨v,h1,h2⟩:=zaX (P:=tp) (w:=w) (K:=λv=>v=.agg #[.string n,.slice a m c]) (t:=160) (parts:=#[(0,.string n),(1,.slice a m c)]) (cells:=#[.string n,.slice a m c]) (by kernel_rfl) rfl;subst h2;exact h1 w (Ext.refl w)
theorem zul {X:Nat→Prop} {w:World} {lo hi n cap i:Nat} {a:Option Addr} {l:List ByteArray} {K:Value→Prop} (h:IsK lo hi w (.slice a n cap) l) (hn:n=l.length) (hil:i<l.length) (hX:∀ b,lo≤b→b<hi→¬X b)
   (k:l[i].size≤maxLen→K (.string l[i])):∃ p,(∀ w':World,(Instr.indexAt 24 (.slice a n cap) (.int .i64 (i:Int))).run tp w'=.ok p w')∧RDX tp X (Instr.loadAt 9 p) w K:=by
 subst hn;obtain ⟨F,cs,⟨a',cap',Fi,xs,rfl,h1,h2,hc,h4⟩,hv⟩:=h.is;simp only [mkv,Rep.agg,cond_false,List.headD_cons,Value.slice.injEq] at hv;obtain ⟨rfl,_,rfl⟩:=hv;rcases h4 with ⟨rfl,_⟩ | ⟨b,o,rfl,rfl,hr,hb⟩
 · simp at hil
 refine ⟨.pointer (some ⟨b,o+i*1,none⟩),λw'=>by rw [zb2 u24 ty9 (by omega) (by omega)];simp,?_⟩
 have key:∀ w':World,Is w' (.slice (some ⟨b,o,none⟩) l.length cap) l→w'.cell? ⟨b,o+i*1,none⟩=some (.string l[i])∧l[i].size≤maxLen:=by
   intro w' hw;obtain ⟨F,cs,⟨a',cap',Fi,xs,rfl,h1,h2,hc,h4⟩,hv⟩:=hw;simp only [mkv,Rep.agg,cond_false,List.headD_cons,Value.slice.injEq] at hv;obtain ⟨rfl,_,rfl⟩:=hv;rcases h4 with ⟨rfl,_⟩ | ⟨b2,o2,hbo,rfl,hr,hb⟩
   · simp at hil
   simp only [Option.some.injEq,Addr.mk.injEq,and_true] at hbo;obtain ⟨rfl,rfl⟩:=hbo;have e:l=l.take i++(l[i] :: l.drop (i+1)):=by simp
   rw [e] at hc;obtain ⟨F1,F2,x1,x2,rfl,rfl,c1,c2⟩:=Cells.split hc;obtain ⟨G,F3,cg,x3,rfl,rfl,⟨_,rfl,hs⟩,_⟩:=c2;have hx1:x1.length=i:=by rw [Cells.len c1,List.length_take,Nat.min_eq_left (by omega)];exact Nat.mul_one i
   refine ⟨?_,hs⟩;have:=hr i (.string l[i]) (by rw [List.getElem?_append_right (by omega),hx1];simp);simpa using this
 refine ⟨.string l[i],λw' hx'=>?_,k (key w h.is).2⟩;have h0:=(key w' (h.2 w' λc h5 h6=>hx'.block c (Nat.lt_of_lt_of_le h6 h.1) (hX c h5 h6))).1;rw [Nat.mul_one] at h0;have hA:=zc1 ty9 w';simp [Instr.loadAt,Instr.sureAddr,loadVar,hA,h0]
theorem zsD (bs:List UInt8) (s:Cur):(za8 bs 2 s).1.length≤4∧(za8 bs 1 (za8 bs 2 s).2).1.length≤4∧(zfK bs s).1.length≤50∧(zgK bs (zfK bs s)).1.length≤53:=by
 refine ⟨zjz 4 0 _,zjz 4 0 _,?_,?_⟩
 · have:=zoB bs s;have:=zlH (zfK bs s).1;omega
 have:=zsm bs (zoB bs s);have:=zlH (zgK bs (zfK bs s)).1;omega
theorem zpU {X:Nat→Prop} {w:World} {m:Sem Value} {p:Value} {K:Value→Prop} (h:∀ w':World,m.run tp w'=.ok p w') (k:K p):RDX tp X m w K:=⟨p,λw' _=>h w',k⟩
theorem zsE {pr:List ByteArray} (h:1<pr.length):(pr.drop 1).getD 0 nO=pr[1]:=by
 rw [List.getD_eq_getElem?_getD,List.getElem?_drop,List.getElem?_eq_getElem h];rfl
theorem zkv {bs:List UInt8} {pr l:List ByteArray} {k:Nat} {s:Cur} (hk:k<l.length):zbs bs pr (l.drop k) k s =
   (⟨l[k],(zdu bs pr k s).1⟩ :: (zbs bs pr (l.drop (k+1)) (k+1) (zdu bs pr k s).2).1,(zbs bs pr (l.drop (k+1)) (k+1) (zdu bs pr k s).2).2):=by
 rw [List.drop_eq_getElem_cons hk,zbs]
theorem zqV {W w:World} {g:Nat} {bs:List UInt8} {s:Cur} (hC:CurAt W g bs s w) :
   CALL tp 71 [.pointer (some ⟨g,0,none⟩)] w λr w'=>ChgI g (g+1) w w'∧CurAt W g bs (zcV bs s).2 w'∧OwnI w.heap.size w'.heap.size w' r (zcV bs s).1:=by
 have hgl:=hC.lt;refine F71_call ?_;unfold F71;refine zbH zxS λw1 hx1 hB1=>?_;have hs1:=hx1.size;have hg1:=hB1.lt;refine zw8 λv7 w2 hx2 o7=>?_;have hs2:=hx2.size;refine zsw λv8 w3 hx3 o8=>?_;have hs3:=hx3.size;have o7:=o7.ext hx3;obtain ⟨a7,cap7,rfl⟩:=zfb o7;obtain ⟨a8,cap8,rfl⟩:=zfb o8;refine zaX (cells:=#[.slice a7 glb.length cap7,.slice a8 lks.length cap8,.slice none 0 0]) (by kernel_rfl) ?_;refine zbH zxS λw4 hx4 hB4=>?_;have hs4:=hx4.size;have hg4:=hB4.lt;have o7:=o7.ext hx4;have o8:=o8.ext hx4;refine zbU (x:=(⟨glb,lks,[]⟩:DProg)) (lo:=w1.heap.size) (hi:=w3.heap.size) zmH rfl hB4 rfl (zm3 (l0:=w1.heap.size) (h0:=w2.heap.size) (l1:=w2.heap.size) (h1:=w3.heap.size) (l2:=w3.heap.size) (h2:=w3.heap.size) o7 o8 zcg (by omega) (by omega) (by omega) (by omega) (by omega) (by omega)) λw5 hc5 hB5=>?_;have hs5:=hc5.size;have o7:=o7.chg hc5 (by omega);have o8:=o8.chg hc5 (by omega);have hx05:Ext w w5:=Ext.chgI (hx1.t (hx2.t (hx3.t hx4))) hc5 (by omega);have hB15:=(hB1.ext (hx2.t (hx3.t hx4))).chgI hc5 (by omega);refine zw9 λv10 w6 hx6 o10=>?_;have hs6:=hx6.size;refine (zcq (hC.ext (hx05.t hx6)) (by omega)).mono ?_;rintro _ w7 ⟨hc7,hC7,rfl⟩;have hs7:=hc7.size;have o7:=(o7.ext hx6).chg hc7 (by omega);have o8:=(o8.ext hx6).chg hc7 (by omega);have o10:=o10.chg hc7 (by omega);have hB7:=(hB5.ext hx6).chgI hc7 (by omega);have hB17:=(hB15.ext hx6).chgI hc7 (by omega);have hbx:=zcf bs (n:=3) (by omega) s;have hN:=zsx bs s;refine zcG (by unfold I64;omega) ?_;obtain ⟨a10,cap10,rfl⟩:=zfb o10;have hK10:=o10.isK (by omega);obtain ⟨np,hnp⟩:∃ np:Nat,np=2+(zbC bs 3 s).toNat:=⟨_,rfl⟩;have hnp4:np≤prc4.length:=by show np≤4;omega
 have hprN:zjB bs s=prc4.take np:=by rw [hnp];rfl
 have hprl:(zjB bs s).length=np:=by rw [hprN,List.length_take];omega
 have hK:=hK10.take hnp4;rw [←hprN] at hK
 have hsl:∀ w':World,(Instr.sliceAt 24 (.slice a10 prc4.length cap10) none (some (.int .i64 (2+zbC bs 3 s))) none).run tp w'=.ok (.slice a10 np cap10) w':=λw'=>by
   obtain ⟨a',cap',Fi',xs',hv',q1,q2,_⟩:=zcY o10.is;simp only [Value.slice.injEq] at hv';obtain ⟨rfl,_,rfl⟩:=hv'
   have hb:(Instr.sliceBounds true prc4.length cap10 none (some (.int .i64 (2+zbC bs 3 s))) none).run tp w'=.ok (0,np,cap10) w':=by
     have h1:2+zbC bs 3 s≤(cap10:Int):=by omega
     have h2:(0:Int)≤2+zbC bs 3 s:=by omega
     have h3:(2+zbC bs 3 s).toNat=np:=by omega
     simp [Instr.sliceBounds,Instr.sliceBound,asIntOf,h1,h2,h3]
   simp only [Instr.sliceAt,Instr.slice,Sem.run_bind,run_underlying u24,Result.andThen_ok,hb,zaM ty9];simp;exact λ_=>by cases a10<;>simp [Addr.add_mid,Addr.add]
 refine za3 (λw' _=>hsl w') ?_;obtain ⟨L,hL⟩:∃ L,L=zjB bs s:=⟨_,rfl⟩;rw [←hL] at hK hN hprl;have hp0:0<(L.drop 1).length:=by rw [List.length_drop];omega
 have hc07:ChgI g (g+1) w w7:=((hx05.t hx6).toI).trans hc7
 refine zat L.length (λk us w'=>us=[.int .i64 (k:Int)]∧∃ (ps:List DProc) (s1:Cur) (vr:Value) (hi:Nat),k≤L.length∧ps.length=k∧zbs bs (L.drop 1) L 0 (zam bs 3 s)=(ps++(zbs bs (L.drop 1) (L.drop k) k s1).1,(zbs bs (L.drop 1) (L.drop k) k s1).2) ∧
     CurAt W g bs s1 w'∧ChgI g (g+1) w w'∧Blk w3.heap.size 92 w' [.slice a7 glb.length cap7,.slice a8 lks.length cap8,vr]∧OwnI w1.heap.size w2.heap.size w' (.slice a7 glb.length cap7) glb∧OwnI w2.heap.size w3.heap.size w' (.slice a8 lks.length cap8) lks ∧
     IsK w5.heap.size w6.heap.size w' (.slice a10 np cap10) L∧RowI w6.heap.size hi 160 w' vr ps∧w6.heap.size≤hi∧hi≤w'.heap.size∧Blk w.heap.size 92 w' [.slice none 0 0,.slice none 0 0,.slice none 0 0]) 0 (z0 _)
     ⟨rfl,[],zam bs 3 s,.slice none 0 0,w6.heap.size,z0 _,rfl,by simp,hC7,hc07,hB7,o7,o8,hK,zcm _ _ _ _,lr _,by omega,hB17⟩ ?_
 rintro k m u w8 hkm ⟨hu,ps,s1,vr,hi,hkl,hps,hdr,hC8,hc8,hB8,o7,o8,hK8,r8,hhi0,hhi,hB18⟩;try replace hu:=zbG hu
 rw [hu];have hs8:=hc8.size;refine zae u24 hK8.is ?_;refine zaf ?_;refine br (λhlt=>?_) (λhge=>?_)
 · have hk:k<L.length:=by omega
   rw [zkv hk] at hdr;obtain ⟨q1,q2,q3,q4⟩:=zsD bs s1;refine ((zoE 2 (by omega)).2 hC8 rfl).mono ?_;rintro v22 w9 ⟨hc9,hC9,r22⟩;have hs9:=hc9.size;refine ((zoE 1 (by omega)).2 hC9 rfl).mono ?_;rintro v24 w10 ⟨hc10,hC10,r24⟩;have hs10:=hc10.size;refine zqO (α:=DStmt) ze5 zbO zqD (r22.chg hc10 (by omega)) (by omega) r24.own (by omega) (by omega) (by rw [zak];omega) (by omega) λv25 w11 hc11 r25=>?_;have hs11:=hc11.size;have hC11:=hC10.chg hc11 (by omega) (by omega);have hu11:UpG g w8.heap.size w8 w11:=(hc9.upG1.trans hc10.upG1).trans (hc11.upG (by omega));refine JOIN.mk (λus w'=>∃ v,us=[v]∧UpG g w8.heap.size w8 w'∧CurAt W g bs (zfK bs s1).2 w'∧OwnI w8.heap.size w'.heap.size w' v (zfK bs s1).1) ?_ ?_
   · refine (zjI _ r25.is (Ext.refl _) (by omega) (by omega)).mono ?_
     rintro _ w12 ⟨hx12,rfl⟩;have hs12:=hx12.size;refine zaf ?_;refine br (λh0=>?_) (λh0=>?_)
     · refine zkS (lo:=w12.heap.size) (hi:=w12.heap.size) (lr _) (by unfold I64;omega) λv29 o29=>?_
       refine zhO (α:=DStmt) (lo:=w12.heap.size) (hi:=w12.heap.size) ze5 zbO zwH (by decide) o29 (by omega) λv30 w13 hx13 o30=>?_;refine ⟨v30,rfl,(hu11.trans hx12.upG).trans hx13.upG,hC11.ext (hx12.t hx13),?_⟩;unfold zfK;rw [if_pos h0];exact o30.mono (by omega) (by omega)
     refine ⟨v25,rfl,hu11.trans hx12.upG,hC11.ext hx12,?_⟩;unfold zfK;rw [if_neg h0];exact (r25.ext hx12).own.mono (by omega) (by omega)
   rintro u9 w14 ⟨v14,hu,hu14,hC14,o14⟩;try replace hu:=zbG hu
   rw [hu];have hs14:=hu14.size;have hgw:g<w8.heap.size:=by omega
   refine JOIN.mk (λus w'=>∃ v,us=[v]∧UpG g w8.heap.size w8 w'∧CurAt W g bs (zgK bs (zfK bs s1)).2 w'∧OwnI w8.heap.size w'.heap.size w' v (zgK bs (zfK bs s1)).1) ?_ ?_
   · refine (zf8 hC14 (by omega)).mono ?_
     rintro _ w15 ⟨hc15,hC15,rfl⟩;have hs15:=hc15.size;have o15:=o14.chg hc15 (by omega);refine br (λh0=>?_) (λh0=>?_)
     · refine (zlN hC15 o15 (by omega) (by omega) hgw (by omega)).mono ?_
       rintro v35 w16 ⟨hu16,hC16,r16⟩;refine ⟨v35,rfl,(hu14.trans hc15.upG1).trans hu16,?_,?_⟩
       · unfold zgK;rw [if_pos h0];exact hC16
       unfold zgK;rw [if_pos h0];exact r16.own
     refine ⟨v14,rfl,hu14.trans hc15.upG1,?_,?_⟩
     · unfold zgK;rw [if_neg h0];exact hC15
     unfold zgK;rw [if_neg h0];exact o15.mono (lr _) hs15
   rintro u11 w17 ⟨v17,hu,hu17,hC17,o17⟩;try replace hu:=zbG hu
   rw [hu];have hs17:=hu17.size;have hK17:=hK8.upG hu17 (by omega) (by omega);have hone:1<L.length:=by omega
   refine JOIN.mk (λus w'=>∃ v,us=[v]∧UpG g w8.heap.size w8 w'∧CurAt W g bs (ziG bs k ((L.drop 1).getD 0 nO) (zgK bs (zfK bs s1))).2 w'∧OwnI w8.heap.size w'.heap.size w' v (ziG bs k ((L.drop 1).getD 0 nO) (zgK bs (zfK bs s1))).1) ?_ ?_
   · refine zag ?_
     refine br (λhk0=>?_) (λhk0=>?_)
     · have hk0':k=0:=by omega
       refine (zf8 hC17 (by omega)).mono ?_;rintro _ w18 ⟨hc18,hC18,rfl⟩;have hs18:=hc18.size;have o18:=o17.chg hc18 (by omega);have hK18:=hK17.chgF hc18.toC (by simp;omega);refine br (λh0=>?_) (λh0=>?_)
       · refine zax (l:=L) (i:=1) u24 ty9 hK18.is (by omega) (by show 1<L.length;omega) λb43 o43 hA43=>?_
         refine zaq ty9 hA43 (Ext.refl _) λhS44=>?_;refine zcN (lo:=w18.heap.size) (hi:=w18.heap.size) (lr _) (by unfold I64;omega) hS44 λv45 o45=>?_;refine zbE (β:=DStmt) ze5 zbO zwH (by decide) (zkU o45) λv46 w19 hx19 r46=>?_;have hs19:=hx19.size;refine zh2 (α:=DStmt) (lo0:=w8.heap.size) ze5 zbO zqD r46 (by omega) (o18.ext hx19) (by omega) (by omega) (by omega) (by rw [zak];simp;omega) (by simp;omega) λv48 w20 hc20 r48=>?_;refine ⟨v48,rfl,((hu17.trans hc18.upG1).trans hx19.upG).trans (hc20.upG (by omega)),?_,?_⟩
         · unfold ziG
           rw [if_pos hk0',if_pos h0];exact (hC18.ext hx19).chg hc20 (by omega) (by omega)
         unfold ziG;rw [if_pos hk0',if_pos h0,zsE hone];exact r48.own
       refine ⟨v17,rfl,hu17.trans hc18.upG1,?_,?_⟩
       · unfold ziG;rw [if_pos hk0',if_neg h0];exact hC18
       unfold ziG;rw [if_pos hk0',if_neg h0];exact o18.mono (lr _) hs18
     have hk0':¬k=0:=by omega
     refine ⟨v17,rfl,hu17,?_,?_⟩
     · unfold ziG;rw [if_neg hk0'];exact hC17
     unfold ziG;rw [if_neg hk0'];exact o17
   rintro u13 w21 ⟨v21,hu,hu21,hC21,o21⟩;try replace hu:=zbG hu
   rw [hu];have hs21:=hu21.size;have hx22:=zai w21;have hs22:=hx22.size;generalize World.drew1 w21=w22 at *;have hu22:UpG g w8.heap.size w8 w22:=hu21.trans hx22.upG;have hB22:=hB8.upG hu22 (by omega) (by omega);have hK22:=hK8.upG hu22 (by omega) (by omega);have r22:=r8.upG hu22 (by omega) (by omega);have o22:=o21.ext hx22;have hC22:=hC21.ext hx22;refine XR.mk (λc=>c=g∨w8.heap.size≤c) ?_;have hXK:∀ b,w5.heap.size≤b→b<w6.heap.size→¬(b=g∨w8.heap.size≤b):=λb h1 h2=>by omega
   refine zet zem ?_;refine zeI zol (u:=vr) (λj v hj=>?_) (by omega) ?_
   · have:=hB22.range 2 vr rfl
     match j,hj with
     | 0,hj=>simp at hj;subst hj;simpa using this
     | j+1,hj=>simp at hj
   obtain ⟨p53,hp53,hl53⟩:=zul (X:=λc=>c=g∨w8.heap.size≤c) (K:=λv=>L[k].size≤maxLen∧v=.string L[k]) hK22 hprl.symm hk hXK λh=>⟨h,rfl⟩;refine zpU hp53 ?_;obtain ⟨v54,hv54,hS54,rfl⟩:=hl53;refine RDX.mk _ hv54 ?_
   have hd1:∀ w':World,(Instr.sliceAt 24 (.slice a10 np cap10) (some (.int .i64 1)) none none).run tp w'=.ok (.slice (if cap10=1 then a10 else a10.map (·.add (1*Rep.size ByteArray))) (np-1) (cap10-1)) w':=λw'=>by
     obtain ⟨a',cap',Fi',xs',hv',z1,z2,_⟩:=zcY hK22.is;simp only [Value.slice.injEq] at hv';obtain ⟨rfl,_,rfl⟩:=hv'
     have hb:(Instr.sliceBounds true np cap10 (some (.int .i64 1)) none none).run tp w'=.ok (1,np,cap10) w':=by
       have h1:(1:Int)≤(np:Int):=by omega
       simp [Instr.sliceBounds,Instr.sliceBound,asIntOf,h1]
     simp [Instr.sliceAt,Instr.slice,run_underlying u24,hb,zaM ty9];rfl
   refine zpU hd1 ?_
   have hK1:IsK w5.heap.size w6.heap.size w22 (.slice (if cap10=1 then a10 else a10.map (·.add (1*Rep.size ByteArray))) (np-1) (cap10-1)) (L.drop 1):=by
     have:=IsK.drop (l:=L) (k:=1) (by rw [hprl];exact hK22) (by omega)
     rwa [hprl] at this
   obtain ⟨F,hMF,hF⟩:=o22;refine (zsr _ hC22 hMF (λh=>by have:=hF g h;omega) (λc hc=>by have:=hF c hc;omega) hK1 (by omega) (λc hc=>by have:=hF c hc;omega) hp0 (by rw [List.length_drop];omega)).mono ?_;rintro r59 w23 ⟨h59,hc23,hC23,F',hM23,hF'⟩;rw [h59];have hs23:=hc23.size;refine ⟨hc23.toX λc hc=>?_,?_⟩
   · rcases List.mem_cons.1 hc with rfl | hc
     · exact .inl rfl
     exact .inr (hF c hc).1
   have hu23:UpG g w8.heap.size w22 w23:=hc23.upG λc hc=>(hF c hc).1;have o23:OwnI w8.heap.size w22.heap.size w23 v21 (zdu bs (L.drop 1) k s1).1:=⟨F',hM23,λc hc=>⟨(hF c (hF' c hc)).1,hMF.lt c (hF' c hc)⟩⟩;obtain ⟨a21,c21,rfl⟩:=zfb o23;refine zui (λw'=>zqU) ?_;have o60:=zsv hS54 o23;have hB23:=hB22.upG hu23 (by omega) (by omega);have r23:=r22.upG hu23 (by omega) (by omega);refine zlv (α:=DProc) u90 zmK zx7 zxC (by decide) r23 (by omega) o60 (by omega) (by omega) (by rw [zak];omega) (by omega) (λv62 w24 hc24 r24'=>?_) λs' w' hx' h'=>⟨hx'.toX,h'⟩;have hs24:=hc24.size;refine zet zem ?_;have hB24:=hB23.chgI hc24 (by omega);refine zbp (α:=List DProc) zol rfl rfl hB24 (by simp) r24'.own λw25 hc25 hB25=>?_;have hs25:=hc25.size;refine zaB ?_;have hu25:UpG g w6.heap.size w8 w24:=((hu22.trans hu23).mono (by omega)).trans (hc24.upG (by omega));refine ⟨m-1,by omega,k+1,by omega,rfl,ps++[⟨L[k],(zdu bs (L.drop 1) k s1).1⟩],(zdu bs (L.drop 1) k s1).2,v62,w24.heap.size,by omega,by simp [hps],by rw [hdr];simp,?_,?_,hB25,?_,?_,?_,r24'.chg hc25 (by omega),by omega,by omega,?_⟩
   · exact (hC23.chg hc24 (by omega) (by omega)).chg hc25 (by omega) (by omega)
   · have h1:ChgI g (g+1) w w23:=hc8.trans ((hu22.trans hu23).toI (lr _))
     exact ChgI.out (ChgI.out h1 hc24 (by omega)) hc25 (by omega)
   · exact (o7.upG hu25 (by omega) (by omega)).chg hc25 (by omega)
   · exact (o8.upG hu25 (by omega) (by omega)).chg hc25 (by omega)
   · exact (hK8.upG hu25 (lr _) (by omega)).chgF hc25.toC (by simp;omega)
   exact (hB18.upG hu25 (by omega) (by omega)).chgI hc25 (by omega)
 have hk:k=L.length:=by omega
 subst hk;rw [List.drop_length,zbs] at hdr;simp only [List.append_nil] at hdr
 have hpe:zcV bs s=(⟨glb,lks,ps⟩,s1):=by
   unfold zcV;rw [←hL,hdr]
 rw [hpe];refine zgL hB8 zmH ?_
 have ost:OwnI w1.heap.size w8.heap.size w8 (.agg #[.slice a7 glb.length cap7,.slice a8 lks.length cap8,vr]) (⟨glb,lks,ps⟩:DProg):=
   zm3 (l0:=w1.heap.size) (h0:=w2.heap.size) (l1:=w2.heap.size) (h1:=w3.heap.size) (l2:=w6.heap.size) (h2:=hi) o7 o8 r8.own (by omega) (by omega) (by omega) (by omega) (by omega) (by omega)
 refine zbU zmH rfl hB18 rfl ost λw9 hc9 hB9=>?_;have hs9:=hc9.size;refine zer hB9 zmH ?_;exact ⟨ChgI.out hc8 hc9 (lr _),hC8.chg hc9 (by omega) (by omega),(ost.chg hc9 (by omega)).mono (by omega) (by omega)⟩
theorem CodeR.f {c:DCode} (h:CodeR c):EntF c:=h.2.1.f h.1.procs8.2
def F95 (a0 a1:Value) (w:World) (R:VW):Prop:=
 oX 28 a0 w λx2 w=>
 rB .geq 3 T0 U0 a1 (iV 0) w λx6=>
 BR x6
 (rF 28 x2 4 w λx9=>
 rL 26 x9 w λx10=>
 rN 26 3 x10 w λx11=>
 rC a1 x11 w λx12=>
 R x12 w)
 (R vF w)
theorem F95_call {a0 a1 w R} (h:F95 a0 a1 w R):cL 95 [a0,a1] w R:=co (g:=(kf [] [] [])) Tryz.func95 h
theorem zgd {w:World} {v0:Value} {W0:World} {c:DCode} {a:Int}  (h0:Is W0 v0 c) (e0:Ext W0 w)  :
   CALL tp 95 [v0,.int .i64 a] w λr w'=>Ext w w'∧(r=.bool (decide (0≤a∧a<c.ins.length))):=by
 refine F95_call ?_;unfold F95;refine zao zcv rfl h0 e0 λw1_ η1 hA2 hV2=>?_;refine zbW ?_;refine br (λc1=>?_) (λc1=>?_)
 · refine zaa zaR ?_
   refine zab zdn (zal hA2) (Ext.refl w1_) λv10 h10=>?_;have hln11:=zah h10;refine zae u26 h10 ?_;refine zaf ?_;refine ⟨η1,?_⟩;simp [c1]
 refine ⟨η1,?_⟩;simp [c1]
def F185 (a0 a1:Value) (w:World) (R:VW):Prop:=
 oX 28 a0 w λx2 w=>
 LOOPI [5] [(iV 0)] w λu2 w n2=>
 rI (u2 5) w λx7=>
 rF 28 x2 3 w λx8=>
 rL 25 x8 w λx9=>
 rN 25 3 x9 w λx10=>
 rC x7 x10 w λx11=>
 BR x11
 (rF 28 x2 3 w λx13=>
 rL 25 x13 w λx14=>
 rI (u2 5) w λx16=>
 rX 25 x14 x16 w λx17=>
 rL 3 x17 w λx18=>
 rB .leq 3 T0 T0 x18 a1 w λx20=>
 BR x20
 (rI (u2 5) w λx23=>
 n2 [x23] w)
 (R (u2 5) w))
 (R (u2 5) w)
theorem F185_call {a0 a1 w R} (h:F185 a0 a1 w R):cL 185 [a0,a1] w R:=co (g:=(kf [] [(2,16777184,[5])] [])) Tryz.func185 h
theorem zsF {w:World} {v0:Value} {W0:World} {c:DCode} {a:Int}  (h0:Is W0 v0 c) (e0:Ext W0 w) (hc:CodeR c) (ha:0≤a) (ha2:a<c.ins.length) :
   CALL tp 185 [v0,.int .i64 a] w λr w'=>Ext w w'∧(r=.int .i64 (zaH c a)):=by
 refine F185_call ?_;unfold F185;have hf:=hc.f;have h8:=hc.1.procs8;have hl:=hf.len;refine zao zcv rfl h0 e0 λw1_ η1 hA2 hV2=>?_;refine zat (c.entry.length-1) (λk us w'=>us=[.int .i64 (k:Int)]∧Ext w1_ w'∧(en c k≤a)) (0) (by omega) ⟨by simp,Ext.refl w1_,by rw [hf.zero];exact ha⟩ ?_;rintro k m2 uu2 w2_ hk2 ⟨hu,η2,hinv⟩;try replace hu:=zbG hu
 try rw [hu]
 try clear hu
 refine zaB ?_;refine zaa za7 ?_;refine zab zaK (zap hA2) η2 λv9 h9=>?_;have hln10:=zah h9;refine zae u25 h9 ?_;refine zaf ?_;refine br (λc1=>?_) (λc1=>?_)
 · refine zaa za7 ?_
   refine zab zaK (zap hA2) η2 λv14 h14=>?_;refine zaB ?_;refine zad u25 ty3 h14 (by omega) λb17 o17 h17=>?_;refine zac ty3 h17 η2 λhI18=>?_;refine zdZ ?_;refine br (λc2=>?_) (λc2=>?_)
   · refine zaB ?_
     refine ⟨m2-1,by omega,k+1,by omega,by simp,η2,?_⟩
     rwa [zbr] at c2
   refine ⟨(η1.t η2),?_⟩;rw [zbr] at c2;rw [hf.proc (i:=k) (by omega) hinv (by rw [hf.step (by omega)];omega)]
 refine ⟨(η1.t η2),?_⟩;rw [hf.proc (i:=k) (by omega) hinv (by rw [hf.last (by omega)];omega)]
def st (l:List Int) (i:Nat):Int:=l.getD i 0
theorem zeJ {l:List Int} {i:Nat} (h:i<l.length):l[i]=st l i:=by unfold st;rw [List.getD_eq_getElem?_getD,List.getElem?_eq_getElem h];rfl
def zbY (c:DCode) (l:List Int):Prop:=l.length≤8∧(∀ i,i<l.length→0≤st l i∧st l i<c.ins.length) ∧
 ∀ i,i<l.length-1→(zan c (st l i).toNat).op=4∧zaH c (st l (i+1))=(zan c (st l i).toNat).arg
instance (c:DCode) (l:List Int):Decidable (zbY c l):=by unfold zbY;infer_instance
def F158 (a0 a1:Value) (w:World) (R:VW):Prop:=
 oX 28 a0 w λx2 w=>
 rN 25 3 a1 w λx9=>
 rB .gtr 3 T0 U0 x9 (iV 8) w λx10=>
 BR x10
 (R vF w)
 (LOOPI [5] [(iV 0)] w λu4 w n4=>
 rN 25 3 a1 w λx13=>
 rC (u4 5) x13 w λx14=>
 BR x14
 ((λw=>rX 25 a1 (u4 5) w λx19=>
 rL 3 x19 w λx20=>
 rF 28 x2 4 w λx21=>
 rL 26 x21 w λx22=>
 rN 26 3 x22 w λx23=>
 rB .sub 3 T0 U0 x23 (iV 1) w λx24=>
 cL 151 [x20,(iV 0),x24] w λx25 w=>
 rT x25 w λx26=>
 BR x26
 (R vF w)
 (rI (u4 5) w λx16=>
 n4 [x16] w)) (World.drew1 w))
 (LOOPI [6] [(iV 0)] w λu9 w n9=>
 rI (u9 6) w λx28=>
 rN 25 3 a1 w λx30=>
 rC x28 x30 w λx31=>
 BR x31
 ((λw=>rF 28 x2 4 w λx34=>
 rL 26 x34 w λx35=>
 rX 25 a1 (u9 6) w λx38=>
 rL 3 x38 w λx39=>
 rX 26 x35 x39 w λx40=>
 rL 118 x40 w λx41=>
 (λw_=>oP (aL 118) w_ λx7 w=>
 Ext w_ w ∧
 (oS 118 x7 x41 w λw=>
 (λw=>rF 118 x7 0 w λx42=>
 rL 3 x42 w λx43=>
 rB .neq 3 T0 U0 x43 (iV 4) w λx44=>
 BR x44
 (R vF w)
 (rL 28 x2 w λx46=>
 rI (u9 6) w λx49=>
 rX 25 a1 x49 w λx50=>
 rL 3 x50 w λx51=>
 rF 118 x7 1 w λx53=>
 rL 3 x53 w λx54=>
 (λw_=>cL 107 [x46,x51] w_ λx52 w=>
 Ext w_ w ∧
 rB .neq 3 T0 T0 x52 x54 w λx55=>
 BR x55
 (R vF w)
 (rI (u9 6) w λx33=>
 n9 [x33] w)) w)) (World.drew1 w))) w) (World.drew1 w))
 (R vT w)))
theorem F158_call {a0 a1 w R} (h:F158 a0 a1 w R):cL 158 [a0,a1] w R:=co (g:=(kf [] [(4,134215728,[5]),(9,144115187941638352,[6])] [(6,[0,1,2,3,4,5,6,7,8,9],0),(11,[0,1,2,3,4,5,6,7,8,9],256),(12,[0,1,2,3,4,5,6,7,8,9,11,12,10,13,14],1024)])) Tryz.func158 h
theorem zoM {w:World} {v0:Value} {W0:World} {c:DCode} {v1:Value} {W1:World} {l:(List Int)}  (h0:Is W0 v0 c) (e0:Ext W0 w) (h1:Is W1 v1 l) (e1:Ext W1 w)  :
   CALL tp 158 [v0,v1] w λr w'=>Ext w w'∧(r=.bool (decide (zbY c l))):=by
 refine F158_call ?_;unfold F158;have hln:=zah h1;refine zao zcv rfl h0 e0 λw1_ η1 hA2 hV2=>?_;have hln9:=zah h1;refine zae u25 h1 ?_;refine zb1 ?_;refine br (λc1=>?_) (λc1=>?_)
 · refine ⟨η1,?_⟩
   have:¬zbY c l:=λh=>by have:=h.1;omega
   simp only [this,decide_false]
 refine zat (l.length) (λk us w'=>us=[.int .i64 (k:Int)]∧Ext w1_ w'∧(∀ i,i<k→0≤st l i∧st l i<c.ins.length)) (0) (by omega) ⟨by simp,Ext.refl w1_,λi h=>by omega⟩ ?_;rintro k m4 uu4 w2_ hk4 ⟨hu,η2,hpl⟩;try replace hu:=zbG hu
 try rw [hu]
 try clear hu
 have hln13:=zah h1;refine zae u25 h1 ?_;refine zaf ?_;refine br (λc2=>?_) (λc2=>?_)
 · have η3:=zai w2_
   refine zad u25 ty3 h1 (by omega) λb19 o19 h19=>?_;refine zac ty3 h19 (e1.trans (η1.t (η2.t η3))) λhI20=>?_;refine zaa zaR ?_;refine zab zdn (zal hA2) (η2.t η3) λv22 h22=>?_;have hln23:=zah h22;refine zae u26 h22 ?_;refine za0 (by unfold I64;have:=zah h22;omega) ?_;refine (l01In_ok ).mono ?_;rintro _ w4_ ⟨η4,rfl⟩;refine zav ?_;refine br (λc3=>?_) (λc3=>?_)
   · refine ⟨(η1.t (η2.t (η3.t η4))),?_⟩
     rw [zeJ] at c3;have:¬zbY c l:=λh=>c3 (by have:=h.2.1 k (by omega);omega);simp only [this,decide_false]
   refine zaB ?_;refine ⟨m4-1,by omega,k+1,by omega,by simp,(η2.t (η3.t η4)),?_⟩;rw [zeJ] at c3;exact zd7 hpl (by omega)
 refine zat (l.length) (λq us w'=>us=[.int .i64 (q:Int)]∧Ext w2_ w'∧(∀ i,i<q→(zan c (st l i).toNat).op=4∧zaH c (st l (i+1))=(zan c (st l i).toNat).arg)) (0) (by omega) ⟨by simp,Ext.refl w2_,λi h=>by omega⟩ ?_;rintro q m9 uu9 w5_ hk9 ⟨hu,η5,hinv⟩;try replace hu:=zbG hu
 try rw [hu]
 try clear hu
 refine zaB ?_;have hln30:=zah h1;refine zae u25 h1 ?_;refine zaf ?_;refine br (λc4=>?_) (λc4=>?_)
 · have η6:=zai w5_
   refine zaa zaR ?_;refine zab zdn (zal hA2) (η2.t (η5.t η6)) λv35 h35=>?_;refine zad u25 ty3 h1 (by omega) λb38 o38 h38=>?_;refine zac ty3 h38 (e1.trans (η1.t (η2.t (η5.t η6)))) λhI39=>?_;rw [zeJ];have hst:=hpl q (by omega);refine zax u26 zbm h35 (by omega) (by omega) λb40 o40 h40=>?_;refine zab zbm h40 (η2.t (η5.t η6)) λv41 h41=>?_;rw [zaE] at h41;refine zoe zhM rfl zbm rfl h41 (η2.t (η5.t η6)) λw7_ η7 hA7 hV7=>?_;have η8:=zai w7_;refine zaa za6 ?_;refine zac ty3 (zaA hA7) η8 λhI43=>?_;refine zaV ?_;refine br (λc5=>?_) (λc5=>?_)
   · refine ⟨(η1.t (η2.t (η5.t (η6.t (η7.t η8))))),?_⟩
     have:¬zbY c l:=λh=>c5 (h.2.2 q (by omega)).1;simp only [this,decide_false]
   refine zau hV2 (η2.t (η5.t (η6.t (η7.t η8)))) ?_;refine zaB ?_;refine zad u25 ty3 h1 (by omega) λb50 o50 h50=>?_;refine zac ty3 h50 (e1.trans (η1.t (η2.t (η5.t (η6.t (η7.t η8)))))) λhI51=>?_;refine zaa zaZ ?_;refine zac ty3 (zaw hA7) η8 λhI54=>?_;refine (zhR h0 (e0.t (η1.t (η2.t (η5.t (η6.t (η7.t η8))))))).mono ?_;rintro _ w9_ ⟨η9,rfl⟩;refine ⟨η9,?_⟩;refine zaV ?_;refine br (λc6=>?_) (λc6=>?_)
   · refine ⟨(η1.t (η2.t (η5.t (η6.t (η7.t (η8.t η9)))))),?_⟩
     rw [zeJ] at c6;have:¬zbY c l:=λh=>c6 (h.2.2 q (by omega)).2;simp only [this,decide_false]
   refine zaB ?_;refine ⟨m9-1,by omega,q+1,by omega,by simp,(η5.t (η6.t (η7.t (η8.t η9)))),?_⟩;rw [zeJ] at c6;exact zd7 hinv ⟨Decidable.not_not.1 c5,Decidable.not_not.1 c6⟩
 refine ⟨(η1.t (η2.t η5)),?_⟩;have:zbY c l:=⟨by omega,λi hi=>hpl i (by omega),λi hi=>hinv i (by omega)⟩;simp only [this,decide_true]
def F114 (a0 a1:Value) (w:World) (R:VW):Prop:=
 oX 28 a0 w λx2 w=>
 rN 25 3 a1 w λx8=>
 rB .gtr 3 T0 U0 x8 (iV 8) w λx9=>
 BR x9
 (R vF w)
 (rN 25 3 a1 w λx11=>
 LOOPI [12] [(iV 0)] w λu4 w n4=>
 rC (u4 12) x11 w λx13=>
 BR x13
 (rX 25 a1 (u4 12) w λx15=>
 rL 3 x15 w λx16=>
 rL 28 x2 w λx17=>
 cL 95 [x17,x16] w λx19 w=>
 rT x19 w λx20=>
 BR x20
 (R vF w)
 (rI (u4 12) w λx22=>
 rN 25 3 a1 w λx24=>
 rB .eql 3 T0 T0 x22 x24 w λx25=>
 BR x25
 (R vT w)
 ((λw=>rF 28 x2 4 w λx26=>
 rL 26 x26 w λx27=>
 rX 26 x27 x16 w λx29=>
 rF 118 x29 0 w λx30=>
 rL 3 x30 w λx31=>
 rB .neq 3 T0 U0 x31 (iV 4) w λx32=>
 BR x32
 (R vF w)
 (rL 28 x2 w λx34=>
 rI (u4 12) w λx37=>
 rX 25 a1 x37 w λx38=>
 rL 3 x38 w λx39=>
 cL 95 [x34,x39] w λx40 w=>
 rT x40 w λx41=>
 BR x41
 (R vF w)
 (rL 28 x2 w λx44=>
 rI (u4 12) w λx47=>
 rX 25 a1 x47 w λx48=>
 rL 3 x48 w λx49=>
 rF 28 x2 4 w λx51=>
 rL 26 x51 w λx52=>
 rX 26 x52 x16 w λx54=>
 rF 118 x54 1 w λx55=>
 rL 3 x55 w λx56=>
 (λw_=>cL 185 [x44,x49] w_ λx50 w=>
 Ext w_ w ∧
 rB .neq 3 T0 T0 x50 x56 w λx57=>
 BR x57
 (R vF w)
 (rI (u4 12) w λx59=>
 n4 [x59] w)) w))) (World.drew1 w))))
 (R vT w))
theorem F114_call {a0 a1 w R} (h:F114 a0 a1 w R):cL 114 [a0,a1] w R:=co (g:=(kf [] [(4,1152921504606842992,[12])] [(9,[0,1,2,3,4,5,6,7,8,9,10,11,12,13,14,15,16,17,18,19,20,21,22,23,25,26,27,28,29,30,24,31,32],16777216)])) Tryz.func114 h
theorem zlP {w:World} {v0:Value} {W0:World} {c:DCode} {v1:Value} {W1:World} {l:(List Int)}  (h0:Is W0 v0 c) (e0:Ext W0 w) (h1:Is W1 v1 l) (e1:Ext W1 w) (hc:CodeR c) :
   CALL tp 114 [v0,v1] w λr w'=>Ext w w'∧(r=.bool (decide (zbY c l))):=by
 refine F114_call ?_;unfold F114;have hln:=zah h1;refine zao zcv rfl h0 e0 λw1_ η1 hA2 hV2=>?_;have hln8:=zah h1;refine zae u25 h1 ?_;refine zb1 ?_;refine br (λc1=>?_) (λc1=>?_)
 · refine ⟨η1,?_⟩
   have:¬zbY c l:=λh=>by have:=h.1;omega
   simp only [this,decide_false]
 have hln11:=zah h1;refine zae u25 h1 ?_;refine zat (l.length) (λk us w'=>us=[.int .i64 (k:Int)]∧Ext w1_ w'∧(k≤l.length-1∧(∀ i,i<k→0≤st l i∧st l i<c.ins.length)∧∀ i,i<k→(zan c (st l i).toNat).op=4∧zaH c (st l (i+1))=(zan c (st l i).toNat).arg)) (0) (by omega) ⟨by simp,Ext.refl w1_,by omega,λi h=>by omega,λi h=>by omega⟩ ?_;rintro k m4 uu4 w2_ hk4 ⟨hu,η2,hkl,hpl,hop⟩;try replace hu:=zbG hu
 try rw [hu]
 try clear hu
 refine zaf ?_;refine br (λc2=>?_) (λc2=>?_)
 · refine zad u25 ty3 h1 (by omega) λb15 o15 h15=>?_
   refine zac ty3 h15 (e1.trans (η1.t η2)) λhI16=>?_;rw [zeJ];refine zau hV2 η2 ?_;refine (zgd h0 (e0.t (η1.t η2))).mono ?_;rintro _ w3_ ⟨η3,rfl⟩;refine zav ?_;refine br (λc3=>?_) (λc3=>?_)
   · refine ⟨(η1.t (η2.t η3)),?_⟩
     have:¬zbY c l:=λh=>c3 (by have:=h.2.1 k (by omega);omega);simp only [this,decide_false]
   refine zaB ?_;have hln24:=zah h1;refine zae u25 h1 ?_;refine zag ?_;refine br (λc4=>?_) (λc4=>?_)
   · refine ⟨(η1.t (η2.t η3)),?_⟩
     have:zbY c l:=⟨by omega,λi hi=>by
         by_cases e:i=k
         · subst e;omega
         exact hpl i (by omega),λi hi=>hop i (by omega)⟩
     simp only [this,decide_true]
   have η4:=zai w3_;refine zaa zaR ?_;refine zab zdn (zal hA2) (η2.t (η3.t η4)) λv27 h27=>?_;have hst1:0≤st l k∧st l k<c.ins.length:=by omega
   refine zax u26 zbm h27 (by omega) (by omega) λb29 o29 h29=>?_;refine zaa za6 ?_;refine zac ty3 (zaA h29) (η2.t (η3.t η4)) λhI31=>?_;refine zaV ?_;refine br (λc5=>?_) (λc5=>?_)
   · refine ⟨(η1.t (η2.t (η3.t η4))),?_⟩
     rw [zaE] at c5;have:¬zbY c l:=λh=>c5 (h.2.2 k (by omega)).1;simp only [this,decide_false]
   refine zau hV2 (η2.t (η3.t η4)) ?_;refine zaB ?_;refine zad u25 ty3 h1 (by omega) λb38 o38 h38=>?_;refine zac ty3 h38 (e1.trans (η1.t (η2.t (η3.t η4)))) λhI39=>?_;refine (zgd h0 (e0.t (η1.t (η2.t (η3.t η4))))).mono ?_;rintro _ w5_ ⟨η5,rfl⟩;refine zav ?_;refine br (λc6=>?_) (λc6=>?_)
   · refine ⟨(η1.t (η2.t (η3.t (η4.t η5)))),?_⟩
     rw [zeJ] at c6;have:¬zbY c l:=λh=>c6 (by have:=h.2.1 (k+1) (by omega);omega);simp only [this,decide_false]
   refine zau hV2 (η2.t (η3.t (η4.t η5))) ?_;refine zaB ?_;refine zad u25 ty3 h1 (by omega) λb48 o48 h48=>?_;refine zac ty3 h48 (e1.trans (η1.t (η2.t (η3.t (η4.t η5))))) λhI49=>?_;refine zaa zaR ?_;refine zab zdn (zal hA2) (η2.t (η3.t (η4.t η5))) λv52 h52=>?_;refine zax u26 zbm h52 (by omega) (by omega) λb54 o54 h54=>?_;refine zaa zaZ ?_;refine zac ty3 (zaw h54) (η2.t (η3.t (η4.t η5))) λhI56=>?_;rw [zeJ] at c6;rw [zeJ];refine (zsF h0 (e0.t (η1.t (η2.t (η3.t (η4.t η5))))) (by assumption) (by omega) (by omega)).mono ?_;rintro _ w6_ ⟨η6,rfl⟩;refine ⟨η6,?_⟩;refine zaV ?_;refine br (λc7=>?_) (λc7=>?_)
   · refine ⟨(η1.t (η2.t (η3.t (η4.t (η5.t η6))))),?_⟩
     rw [zaE] at c7;have:¬zbY c l:=λh=>c7 (h.2.2 k (by omega)).2;simp only [this,decide_false]
   refine zaB ?_;refine ⟨m4-1,by omega,k+1,by omega,by simp,(η2.t (η3.t (η4.t (η5.t η6)))),?_⟩;rw [zaE] at c7 c5;exact ⟨by omega,zd7 hpl hst1,zd7 hop ⟨Decidable.not_not.1 c5,Decidable.not_not.1 c7⟩⟩
 refine ⟨(η1.t η2),?_⟩;have:zbY c l:=⟨by omega,λi hi=>hpl i (by omega),λi hi=>hop i (by omega)⟩;simp only [this,decide_true]
def zaF (c:DCode) (s:DState):Prop:=s.vars.length=c.globals.length∧s.owner.length=c.locks.length∧(1≤s.stacks.length∧s.stacks.length≤6)∧(∀ v∈s.vars,0≤v∧v≤999) ∧
 (∀ o∈s.owner,-1≤o∧o<s.stacks.length)∧∀ l∈s.stacks,zbY c l
instance (c:DCode) (s:DState):Decidable (zaF c s):=by unfold zaF;infer_instance
theorem zge {α:Type} {P:α→Prop} {l:List α} {k:Nat} (hk:k<l.length) (h:∀ x∈l.take k,P x) (hp:P l[k]):∀ x∈l.take (k+1),P x:=by
 intro x hx;rw [tk hk] at hx;rcases List.mem_append.1 hx with hx | hx
 · exact h x hx
 simp only [List.mem_cons,List.not_mem_nil,or_false] at hx;subst hx;exact hp
theorem zia {α:Type} {P:α→Prop} {l:List α} {k:Nat} (hk:l.length≤k) (h:∀ x∈l.take k,P x):∀ x∈l,P x:=by
 rwa [List.take_of_length_le hk] at h
def F93 (a0 a1:Value) (w:World) (R:VW):Prop:=
 oX 28 a0 w λx2 w=>
 oX 36 a1 w λx3 w=>
 rF 36 x3 0 w λx8=>
 rL 25 x8 w λx9=>
 rN 25 3 x9 w λx10=>
 rF 28 x2 0 w λx11=>
 rL 24 x11 w λx12=>
 rN 24 3 x12 w λx13=>
 rB .neq 3 T0 T0 x10 x13 w λx14=>
 BR x14
 (R vF w)
 (rF 36 x3 1 w λx16=>
 rL 25 x16 w λx17=>
 rN 25 3 x17 w λx18=>
 rF 28 x2 1 w λx19=>
 rL 24 x19 w λx20=>
 rN 24 3 x20 w λx21=>
 rB .neq 3 T0 T0 x18 x21 w λx22=>
 BR x22
 (R vF w)
 (rF 36 x3 2 w λx25=>
 rL 33 x25 w λx26=>
 rN 33 3 x26 w λx27=>
 cL 151 [x27,(iV 1),(iV 6)] w λx28 w=>
 rT x28 w λx29=>
 BR x29
 (R vF w)
 (LOOPI [5] [(iV 0)] w λu4 w n4=>
 rF 36 x3 0 w λx32=>
 rL 25 x32 w λx33=>
 rN 25 3 x33 w λx34=>
 rC (u4 5) x34 w λx35=>
 BR x35
 (rF 36 x3 0 w λx38=>
 rL 25 x38 w λx39=>
 rX 25 x39 (u4 5) w λx41=>
 rL 3 x41 w λx42=>
 cL 151 [x42,(iV 0),(iV 999)] w λx43 w=>
 rT x43 w λx44=>
 BR x44
 (R vF w)
 (rI (u4 5) w λx37=>
 n4 [x37] w))
 (LOOPI [6] [(iV 0)] w λu9 w n9=>
 rF 36 x3 1 w λx46=>
 rL 25 x46 w λx47=>
 rN 25 3 x47 w λx48=>
 rC (u9 6) x48 w λx49=>
 BR x49
 ((λw=>rF 36 x3 1 w λx52=>
 rL 25 x52 w λx53=>
 rX 25 x53 (u9 6) w λx55=>
 rL 3 x55 w λx56=>
 rF 36 x3 2 w λx57=>
 rL 33 x57 w λx58=>
 rN 33 3 x58 w λx59=>
 rB .sub 3 T0 U0 x59 (iV 1) w λx60=>
 cL 151 [x56,(iV (-1)),x60] w λx61 w=>
 rT x61 w λx62=>
 BR x62
 (R vF w)
 (rI (u9 6) w λx51=>
 n9 [x51] w)) (World.drew1 w))
 (LOOPI [7] [(iV 0)] w λu14 w n14=>
 rF 36 x3 2 w λx64=>
 rL 33 x64 w λx65=>
 rN 33 3 x65 w λx66=>
 rC (u14 7) x66 w λx67=>
 BR x67
 ((λw=>rL 28 x2 w λx70=>
 rF 36 x3 2 w λx71=>
 rL 33 x71 w λx72=>
 rX 33 x72 (u14 7) w λx74=>
 rL 25 x74 w λx75=>
 cL 158 [x70,x75] w λx76 w=>
 rT x76 w λx77=>
 BR x77
 (R vF w)
 (rI (u14 7) w λx69=>
 n14 [x69] w)) (World.drew1 w))
 (R vT w))))))
theorem F93_call {a0 a1 w R} (h:F93 a0 a1 w R):cL 93 [a0,a1] w R:=co (g:=(kf [] [(4,35182224605232,[5]),(9,9223336852482687056,[6]),(14,302222231531620438900880,[7])] [(11,[0,1,2,3,4,5,6,7,8,9,10],0),(16,[0,1,2,3,4,5,6,7],0)])) Tryz.func93 h
theorem zoN {w:World} {v0:Value} {W0:World} {c:DCode} {v1:Value} {W1:World} {s:DState}  (h0:Is W0 v0 c) (e0:Ext W0 w) (h1:Is W1 v1 s) (e1:Ext W1 w)  :
   CALL tp 93 [v0,v1] w λr w'=>Ext w w'∧(r=.bool (decide (zaF c s))):=by
 refine F93_call ?_;unfold F93;refine zao zcv rfl h0 e0 λw1_ η1 hA2 hV2=>?_;refine zao zcT rfl h1 (e1.trans η1) λw2_ η2 hA3 hV3=>?_;refine zaa zel ?_;refine zab zaK (zbt hA3) (Ext.refl w2_) λv9 h9=>?_;have hln10:=zah h9;refine zae u25 h9 ?_;refine zaa zdR ?_;refine zab zc0 (zbe hA2) η2 λv12 h12=>?_;have hln13:=zah h12;refine zae u24 h12 ?_;refine zaV ?_;refine br (λc1=>?_) (λc1=>?_)
 · refine ⟨(η1.t η2),?_⟩
   have:¬zaF c s:=λh=>by have:=h.1;omega
   simp only [this,decide_false]
 refine zaa zc2 ?_;refine zab zaK (zbu hA3) (Ext.refl w2_) λv17 h17=>?_;have hln18:=zah h17;refine zae u25 h17 ?_;refine zaa zdD ?_;refine zab zc0 (zba hA2) η2 λv20 h20=>?_;have hln21:=zah h20;refine zae u24 h20 ?_;refine zaV ?_;refine br (λc2=>?_) (λc2=>?_)
 · refine ⟨(η1.t η2),?_⟩
   have:¬zaF c s:=λh=>by have:=h.2.1;omega
   simp only [this,decide_false]
 refine zaa zaW ?_;refine zab zd5 (zay hA3) (Ext.refl w2_) λv26 h26=>?_;have hln27:=zah h26;refine zae u33 h26 ?_;refine (l01In_ok ).mono ?_;rintro _ w3_ ⟨η3,rfl⟩;refine zav ?_;refine br (λc3=>?_) (λc3=>?_)
 · refine ⟨(η1.t (η2.t η3)),?_⟩
   have:¬zaF c s:=λh=>by have:=h.2.2.1;omega
   simp only [this,decide_false]
 refine zat (s.vars.length) (λk us w'=>us=[.int .i64 (k:Int)]∧Ext w3_ w'∧(∀ v∈s.vars.take k,0≤v∧v≤999)) (0) (by omega) ⟨by simp,Ext.refl w3_,by simp⟩ ?_;rintro k m4 uu4 w4_ hk4 ⟨hu,η4,hv1⟩;try replace hu:=zbG hu
 try rw [hu]
 try clear hu
 refine zaa zel ?_;refine zab zaK (zbt hA3) (η3.t η4) λv33 h33=>?_;have hln34:=zah h33;refine zae u25 h33 ?_;refine zaf ?_;refine br (λc4=>?_) (λc4=>?_)
 · refine zaa zel ?_
   refine zab zaK (zbt hA3) (η3.t η4) λv39 h39=>?_;refine zad u25 ty3 h39 (by omega) λb41 o41 h41=>?_;refine zac ty3 h41 (η3.t η4) λhI42=>?_;refine (l01In_ok ).mono ?_;rintro _ w5_ ⟨η5,rfl⟩;refine zav ?_;refine br (λc5=>?_) (λc5=>?_)
   · refine ⟨(η1.t (η2.t (η3.t (η4.t η5)))),?_⟩
     have:¬zaF c s:=λh=>c5 (h.2.2.2.1 _ (List.getElem_mem _));simp only [this,decide_false]
   refine zaB ?_;refine ⟨m4-1,by omega,k+1,by omega,by simp,(η4.t η5),?_⟩;exact zge (by omega) hv1 (Decidable.not_not.1 c5)
 refine zat (s.owner.length) (λq us w'=>us=[.int .i64 (q:Int)]∧Ext w4_ w'∧(∀ o∈s.owner.take q,-1≤o∧o<s.stacks.length)) (0) (by omega) ⟨by simp,Ext.refl w4_,by simp⟩ ?_;rintro q m9 uu9 w6_ hk9 ⟨hu,η6,hv2⟩;try replace hu:=zbG hu
 try rw [hu]
 try clear hu
 refine zaa zc2 ?_;refine zab zaK (zbu hA3) (η3.t (η4.t η6)) λv47 h47=>?_;have hln48:=zah h47;refine zae u25 h47 ?_;refine zaf ?_;refine br (λc6=>?_) (λc6=>?_)
 · have η7:=zai w6_
   refine zaa zc2 ?_;refine zab zaK (zbu hA3) (η3.t (η4.t (η6.t η7))) λv53 h53=>?_;refine zad u25 ty3 h53 (by omega) λb55 o55 h55=>?_;refine zac ty3 h55 (η3.t (η4.t (η6.t η7))) λhI56=>?_;refine zaa zaW ?_;refine zab zd5 (zay hA3) (η3.t (η4.t (η6.t η7))) λv58 h58=>?_;have hln59:=zah h58;refine zae u33 h58 ?_;refine za0 (by unfold I64;have:=zah h58;omega) ?_;refine (l01In_ok ).mono ?_;rintro _ w8_ ⟨η8,rfl⟩;refine zav ?_;refine br (λc7=>?_) (λc7=>?_)
   · refine ⟨(η1.t (η2.t (η3.t (η4.t (η6.t (η7.t η8)))))),?_⟩
     have:¬zaF c s:=λh=>c7 (by have:=h.2.2.2.2.1 _ (List.getElem_mem (n:=q) (by omega));omega);simp only [this,decide_false]
   refine zaB ?_;refine ⟨m9-1,by omega,q+1,by omega,by simp,(η6.t (η7.t η8)),?_⟩;exact zge (by omega) hv2 (by omega)
 refine zat (s.stacks.length) (λp us w'=>us=[.int .i64 (p:Int)]∧Ext w6_ w'∧(∀ l∈s.stacks.take p,zbY c l)) (0) (by omega) ⟨by simp,Ext.refl w6_,by simp⟩ ?_;rintro p m14 uu14 w9_ hk14 ⟨hu,η9,hv3⟩;try replace hu:=zbG hu
 try rw [hu]
 try clear hu
 refine zaa zaW ?_;refine zab zd5 (zay hA3) (η3.t (η4.t (η6.t η9))) λv65 h65=>?_;have hln66:=zah h65;refine zae u33 h65 ?_;refine zaf ?_;refine br (λc8=>?_) (λc8=>?_)
 · have η10:=zai w9_
   refine zau hV2 (η2.t (η3.t (η4.t (η6.t (η9.t η10))))) ?_;refine zaa zaW ?_;refine zab zd5 (zay hA3) (η3.t (η4.t (η6.t (η9.t η10)))) λv72 h72=>?_;refine zad u33 zaK h72 (by omega) λb74 o74 h74=>?_;refine zab zaK h74 (η3.t (η4.t (η6.t (η9.t η10)))) λv75 h75=>?_;refine (zoM h0 (e0.t (η1.t (η2.t (η3.t (η4.t (η6.t (η9.t η10))))))) h75 (η3.t (η4.t (η6.t (η9.t η10))))).mono ?_;rintro _ w11_ ⟨η11,rfl⟩;refine zav ?_;refine br (λc9=>?_) (λc9=>?_)
   · refine ⟨(η1.t (η2.t (η3.t (η4.t (η6.t (η9.t (η10.t η11))))))),?_⟩
     have:¬zaF c s:=λh=>c9 (h.2.2.2.2.2 _ (List.getElem_mem _));simp only [this,decide_false]
   refine zaB ?_;refine ⟨m14-1,by omega,p+1,by omega,by simp,(η9.t (η10.t η11)),?_⟩;exact zge (by omega) hv3 (Decidable.not_not.1 c9)
 refine ⟨(η1.t (η2.t (η3.t (η4.t (η6.t η9))))),?_⟩;have:zaF c s:=⟨by omega,by omega,by omega,zia (by omega) hv1,zia (by omega) hv2,zia (by omega) hv3⟩;simp only [this,decide_true]
def F48 (a0 a1:Value) (w:World) (R:VW):Prop:=
 oX 28 a0 w λx2 w=>
 oX 36 a1 w λx3 w=>
 rL 28 x2 w λx5=>
 cL 41 [x5] w λx6 w=>
 BR x6
 (rL 28 x2 w λx8=>
 rL 36 x3 w λx9=>
 cL 93 [x8,x9] w λx10 w=>
 R x10 w)
 (R vF w)
theorem F48_call {a0 a1 w R} (h:F48 a0 a1 w R):cL 48 [a0,a1] w R:=co (g:=(kf [] [] [])) Tryz.func48 h
theorem zgy {w:World} {v0:Value} {W0:World} {c:DCode} {v1:Value} {W1:World} {s:DState}  (h0:Is W0 v0 c) (e0:Ext W0 w) (h1:Is W1 v1 s) (e1:Ext W1 w)  :
   CALL tp 48 [v0,v1] w λr w'=>Ext w w'∧(r=.bool (decide (CodeR c∧zaF c s))):=by
 refine F48_call ?_;unfold F48;refine zao zcv rfl h0 e0 λw1_ η1 hA2 hV2=>?_;refine zao zcT rfl h1 (e1.trans η1) λw2_ η2 hA3 hV3=>?_;refine zau hV2 η2 ?_;refine (zfu h0 (e0.t (η1.t η2))).mono ?_;rintro _ w3_ ⟨η3,rfl⟩;refine br (λc1=>?_) (λc1=>?_)
 · refine zau hV2 (η2.t η3) ?_
   refine zau hV3 η3 ?_;refine (zoN h0 (e0.t (η1.t (η2.t η3))) h1 (e1.trans (η1.t (η2.t η3)))).mono ?_;rintro _ w4_ ⟨η4,rfl⟩;refine ⟨(η1.t (η2.t (η3.t η4))),?_⟩;simp [c1]
 refine ⟨(η1.t (η2.t η3)),?_⟩;simp [c1]
def F62 (a0 a1:Value) (w:World) (R:VW):Prop:=
 oX 28 a0 w λx2 w=>
 oX 36 a1 w λx3 w=>
 rF 36 x3 2 w λx12=>
 rL 33 x12 w λx13=>
 rN 33 3 x13 w λx14=>
 rF 36 x3 0 w λx15=>
 rL 25 x15 w λx16=>
 rN 25 3 x16 w λx17=>
 rF 28 x2 0 w λx18=>
 rL 24 x18 w λx19=>
 rN 24 3 x19 w λx20=>
 rB .neq 3 T0 T0 x17 x20 w λx21=>
 BR x21
 (R vF w)
 (rF 36 x3 1 w λx23=>
 rL 25 x23 w λx24=>
 rN 25 3 x24 w λx25=>
 rF 28 x2 1 w λx26=>
 rL 24 x26 w λx27=>
 rN 24 3 x27 w λx28=>
 rB .neq 3 T0 T0 x25 x28 w λx29=>
 BR x29
 (R vF w)
 (rB .lss 3 T0 U0 x14 (iV 1) w λx33=>
 BR x33
 (R vF w)
 (rB .gtr 3 T0 U0 x14 (iV 6) w λx37=>
 BR x37
 (R vF w)
 (rF 36 x3 0 w λx39=>
 rL 25 x39 w λx40=>
 rN 25 3 x40 w λx41=>
 LOOPI [42] [(iV 0)] w λu5 w n5=>
 rC (u5 42) x41 w λx43=>
 BR x43
 (rX 25 x40 (u5 42) w λx44=>
 rL 3 x44 w λx45=>
 rB .lss 3 T0 U0 x45 (iV 0) w λx47=>
 BR x47
 (R vF w)
 (rB .gtr 3 T0 U0 x45 (iV 999) w λx50=>
 BR x50
 (R vF w)
 (rI (u5 42) w λx52=>
 n5 [x52] w)))
 (rF 36 x3 1 w λx53=>
 rL 25 x53 w λx54=>
 rN 25 3 x54 w λx55=>
 LOOPI [56] [(iV 0)] w λu11 w n11=>
 rC (u11 56) x55 w λx57=>
 BR x57
 (rX 25 x54 (u11 56) w λx58=>
 rL 3 x58 w λx59=>
 rB .lss 3 T0 U0 x59 (iV (-1)) w λx61=>
 BR x61
 (R vF w)
 (rB .geq 3 T0 T0 x59 x14 w λx65=>
 BR x65
 (R vF w)
 (rI (u11 56) w λx67=>
 n11 [x67] w)))
 (rF 36 x3 2 w λx68=>
 rL 33 x68 w λx69=>
 rN 33 3 x69 w λx70=>
 LOOPI [71] [(iV 0)] w λu17 w n17=>
 rC (u17 71) x70 w λx72=>
 BR x72
 (rX 33 x69 (u17 71) w λx73=>
 rL 25 x73 w λx74=>
 rL 28 x2 w λx75=>
 cL 114 [x75,x74] w λx77 w=>
 rT x77 w λx78=>
 BR x78
 (R vF w)
 (rI (u17 71) w λx79=>
 n17 [x79] w))
 (R vT w)))))))
theorem F62_call {a0 a1 w R} (h:F62 a0 a1 w R):cL 62 [a0,a1] w R:=co (g:=(kf [] [(5,9002801208230032,[42]),(11,295075847585314898448,[56]),(17,1206564636373194352101392,[71])] [])) Tryz.func62 h
theorem zlQ {w:World} {v0:Value} {W0:World} {c:DCode} {v1:Value} {W1:World} {s:DState}  (h0:Is W0 v0 c) (e0:Ext W0 w) (h1:Is W1 v1 s) (e1:Ext W1 w) (hc:CodeR c) :
   CALL tp 62 [v0,v1] w λr w'=>Ext w w'∧(r=.bool (decide (zaF c s))):=by
 refine F62_call ?_;unfold F62;refine zao zcv rfl h0 e0 λw1_ η1 hA2 hV2=>?_;refine zao zcT rfl h1 (e1.trans η1) λw2_ η2 hA3 hV3=>?_;refine zaa zaW ?_;refine zab zd5 (zay hA3) (Ext.refl w2_) λv13 h13=>?_;have hln14:=zah h13;refine zae u33 h13 ?_;refine zaa zel ?_;refine zab zaK (zbt hA3) (Ext.refl w2_) λv16 h16=>?_;have hln17:=zah h16;refine zae u25 h16 ?_;refine zaa zdR ?_;refine zab zc0 (zbe hA2) η2 λv19 h19=>?_;have hln20:=zah h19;refine zae u24 h19 ?_;refine zaV ?_;refine br (λc1=>?_) (λc1=>?_)
 · refine ⟨(η1.t η2),?_⟩
   have:¬zaF c s:=λh=>by have:=h.1;omega
   simp only [this,decide_false]
 refine zaa zc2 ?_;refine zab zaK (zbu hA3) (Ext.refl w2_) λv24 h24=>?_;have hln25:=zah h24;refine zae u25 h24 ?_;refine zaa zdD ?_;refine zab zc0 (zba hA2) η2 λv27 h27=>?_;have hln28:=zah h27;refine zae u24 h27 ?_;refine zaV ?_;refine br (λc2=>?_) (λc2=>?_)
 · refine ⟨(η1.t η2),?_⟩
   have:¬zaF c s:=λh=>by have:=h.2.1;omega
   simp only [this,decide_false]
 refine zaf ?_;refine br (λc3=>?_) (λc3=>?_)
 · refine ⟨(η1.t η2),?_⟩
   have:¬zaF c s:=λh=>by have:=h.2.2.1;omega
   simp only [this,decide_false]
 refine zb1 ?_;refine br (λc4=>?_) (λc4=>?_)
 · refine ⟨(η1.t η2),?_⟩
   have:¬zaF c s:=λh=>by have:=h.2.2.1;omega
   simp only [this,decide_false]
 refine zaa zel ?_;refine zab zaK (zbt hA3) (Ext.refl w2_) λv40 h40=>?_;have hln41:=zah h40;refine zae u25 h40 ?_;refine zat (s.vars.length) (λk us w'=>us=[.int .i64 (k:Int)]∧Ext w2_ w'∧(∀ v∈s.vars.take k,0≤v∧v≤999)) (0) (by omega) ⟨by simp,Ext.refl w2_,by simp⟩ ?_;rintro k m5 uu5 w3_ hk5 ⟨hu,η3,hv1⟩;try replace hu:=zbG hu
 try rw [hu]
 try clear hu
 refine zaf ?_;refine br (λc5=>?_) (λc5=>?_)
 · refine zad u25 ty3 h40 (by omega) λb44 o44 h44=>?_
   refine zac ty3 h44 η3 λhI45=>?_;refine zaf ?_;refine br (λc6=>?_) (λc6=>?_)
   · refine ⟨(η1.t (η2.t η3)),?_⟩
     have:¬zaF c s:=λh=>by have:=h.2.2.2.1 _ (List.getElem_mem (n:=k) (by omega));omega
     simp only [this,decide_false]
   refine zb1 ?_;refine br (λc7=>?_) (λc7=>?_)
   · refine ⟨(η1.t (η2.t η3)),?_⟩
     have:¬zaF c s:=λh=>by have:=h.2.2.2.1 _ (List.getElem_mem (n:=k) (by omega));omega
     simp only [this,decide_false]
   refine zaB ?_;refine ⟨m5-1,by omega,k+1,by omega,by simp,η3,?_⟩;exact zge (by omega) hv1 (by omega)
 refine zaa zc2 ?_;refine zab zaK (zbu hA3) η3 λv54 h54=>?_;have hln55:=zah h54;refine zae u25 h54 ?_;refine zat (s.owner.length) (λq us w'=>us=[.int .i64 (q:Int)]∧Ext w3_ w'∧(∀ o∈s.owner.take q,-1≤o∧o<s.stacks.length)) (0) (by omega) ⟨by simp,Ext.refl w3_,by simp⟩ ?_;rintro q m11 uu11 w4_ hk11 ⟨hu,η4,hv2⟩;try replace hu:=zbG hu
 try rw [hu]
 try clear hu
 refine zaf ?_;refine br (λc8=>?_) (λc8=>?_)
 · refine zad u25 ty3 h54 (by omega) λb58 o58 h58=>?_
   refine zac ty3 h58 (η3.t η4) λhI59=>?_;refine zaf ?_;refine br (λc9=>?_) (λc9=>?_)
   · refine ⟨(η1.t (η2.t (η3.t η4))),?_⟩
     have:¬zaF c s:=λh=>by have:=h.2.2.2.2.1 _ (List.getElem_mem (n:=q) (by omega));omega
     simp only [this,decide_false]
   refine zbW ?_;refine br (λc10=>?_) (λc10=>?_)
   · refine ⟨(η1.t (η2.t (η3.t η4))),?_⟩
     have:¬zaF c s:=λh=>by have:=h.2.2.2.2.1 _ (List.getElem_mem (n:=q) (by omega));omega
     simp only [this,decide_false]
   refine zaB ?_;refine ⟨m11-1,by omega,q+1,by omega,by simp,η4,?_⟩;exact zge (by omega) hv2 (by omega)
 refine zaa zaW ?_;refine zab zd5 (zay hA3) (η3.t η4) λv69 h69=>?_;have hln70:=zah h69;refine zae u33 h69 ?_;refine zat (s.stacks.length) (λp us w'=>us=[.int .i64 (p:Int)]∧Ext w4_ w'∧(∀ l∈s.stacks.take p,zbY c l)) (0) (by omega) ⟨by simp,Ext.refl w4_,by simp⟩ ?_;rintro p m17 uu17 w5_ hk17 ⟨hu,η5,hv3⟩;try replace hu:=zbG hu
 try rw [hu]
 try clear hu
 refine zaf ?_;refine br (λc11=>?_) (λc11=>?_)
 · refine zad u33 zaK h69 (by omega) λb73 o73 h73=>?_
   refine zab zaK h73 (η3.t (η4.t η5)) λv74 h74=>?_;refine zau hV2 (η2.t (η3.t (η4.t η5))) ?_;refine (zlP h0 (e0.t (η1.t (η2.t (η3.t (η4.t η5))))) h74 (η3.t (η4.t η5)) (by assumption)).mono ?_;rintro _ w6_ ⟨η6,rfl⟩;refine zav ?_;refine br (λc12=>?_) (λc12=>?_)
   · refine ⟨(η1.t (η2.t (η3.t (η4.t (η5.t η6))))),?_⟩
     have:¬zaF c s:=λh=>c12 (h.2.2.2.2.2 _ (List.getElem_mem _));simp only [this,decide_false]
   refine zaB ?_;refine ⟨m17-1,by omega,p+1,by omega,by simp,(η5.t η6),?_⟩;exact zge (by omega) hv3 (Decidable.not_not.1 c12)
 refine ⟨(η1.t (η2.t (η3.t (η4.t η5)))),?_⟩;have:zaF c s:=⟨by omega,by omega,by omega,zia (by omega) hv1,zia (by omega) hv2,zia (by omega) hv3⟩;simp only [this,decide_true]
def F44 (a0 a1:Value) (w:World) (R:VW):Prop:=
 oX 28 a0 w λx2 w=>
 oX 36 a1 w λx3 w=>
 rL 28 x2 w λx5=>
 cL 60 [x5] w λx6 w=>
 BR x6
 (rL 28 x2 w λx8=>
 rL 36 x3 w λx9=>
 cL 62 [x8,x9] w λx10 w=>
 R x10 w)
 (R vF w)
theorem F44_call {a0 a1 w R} (h:F44 a0 a1 w R):cL 44 [a0,a1] w R:=co (g:=(kf [] [] [])) Tryz.func44 h
theorem zeV {w:World} {v0:Value} {W0:World} {c:DCode} {v1:Value} {W1:World} {s:DState}  (h0:Is W0 v0 c) (e0:Ext W0 w) (h1:Is W1 v1 s) (e1:Ext W1 w)  :
   CALL tp 44 [v0,v1] w λr w'=>Ext w w'∧(r=.bool (decide (CodeR c∧zaF c s))):=by
 refine F44_call ?_;unfold F44;refine zao zcv rfl h0 e0 λw1_ η1 hA2 hV2=>?_;refine zao zcT rfl h1 (e1.trans η1) λw2_ η2 hA3 hV3=>?_;refine zau hV2 η2 ?_;refine (zhb h0 (e0.t (η1.t η2))).mono ?_;rintro _ w3_ ⟨η3,rfl⟩;refine br (λc1=>?_) (λc1=>?_)
 · refine zau hV2 (η2.t η3) ?_
   refine zau hV3 η3 ?_;refine (zlQ h0 (e0.t (η1.t (η2.t η3))) h1 (e1.trans (η1.t (η2.t η3))) (by assumption)).mono ?_;rintro _ w4_ ⟨η4,rfl⟩;refine ⟨(η1.t (η2.t (η3.t η4))),?_⟩;simp [c1]
 refine ⟨(η1.t (η2.t η3)),?_⟩;simp [c1]
def znc (s:DState):Prop:=∀ x∈s.stacks,x=[]
instance (s:DState):Decidable (znc s):=inferInstanceAs (Decidable (∀ x∈s.stacks,x=[]))
theorem zum {s:DState} {i:Nat} (h:i<s.stacks.length) (c:0<(s.stacks[i].length:Int)):¬znc s:=λho=>by
 have:=ho _ (List.getElem_mem h);rw [this] at c;simp at c
theorem zsG {s:DState} {k:Nat} (hk:k<s.stacks.length) (hinv:∀ x∈s.stacks.take k,x=[]) (c:¬0<(s.stacks[k].length:Int)):∀ x∈s.stacks.take (k+1),x=[]:=by
 intro x hx;rw [tk hk] at hx;rcases List.mem_append.1 hx with hx | hx
 · exact hinv x hx
 simp only [List.mem_cons,List.not_mem_nil,or_false] at hx;subst hx;exact List.eq_nil_of_length_eq_zero (by omega)
theorem zun {s:DState} {k:Nat} (hk:s.stacks.length≤k) (hinv:∀ x∈s.stacks.take k,x=[]):znc s:=by
 rw [List.take_of_length_le hk] at hinv;exact hinv
def F15 (a0:Value) (w:World) (R:VW):Prop:=
 oX 36 a0 w λx1 w=>
 rF 36 x1 2 w λx5=>
 rL 33 x5 w λx6=>
 rN 33 3 x6 w λx7=>
 LOOPI [8] [(iV 0)] w λu2 w n2=>
 rC (u2 8) x7 w λx9=>
 BR x9
 (rX 33 x6 (u2 8) w λx10=>
 rL 25 x10 w λx11=>
 rN 25 3 x11 w λx13=>
 rB .gtr 3 T0 U0 x13 (iV 0) w λx14=>
 BR x14
 (R vF w)
 (rI (u2 8) w λx15=>
 n2 [x15] w))
 (R vT w)
theorem F15_call {a0 w R} (h:F15 a0 w R):cL 15 [a0] w R:=co (g:=(kf [] [(2,65300,[8])] [])) Tryz.func15 h
theorem zhl {w:World} {v0:Value} {W0:World} {s:DState}  (h0:Is W0 v0 s) (e0:Ext W0 w)  :
   CALL tp 15 [v0] w λr w'=>Ext w w'∧(r=.bool (decide (znc s))):=by
 refine F15_call ?_;unfold F15;refine zao zcT rfl h0 e0 λw1_ η1 hA1 hV1=>?_;refine zaa zaW ?_;refine zab zd5 (zay hA1) (Ext.refl w1_) λv6 h6=>?_;have hln7:=zah h6;refine zae u33 h6 ?_;refine zat (s.stacks.length) (λk us w'=>us=[.int .i64 (k:Int)]∧Ext w1_ w'∧(∀ x∈s.stacks.take k,x=[])) (0) (by omega) ⟨by simp,Ext.refl w1_,by simp⟩ ?_;rintro k m2 uu2 w2_ hk2 ⟨hu,η2,hinv⟩;try replace hu:=zbG hu
 try rw [hu]
 try clear hu
 refine zaf ?_;refine br (λc1=>?_) (λc1=>?_)
 · refine zad u33 zaK h6 (by omega) λb10 o10 h10=>?_
   refine zab zaK h10 η2 λv11 h11=>?_;have hln13:=zah h11;refine zae u25 h11 ?_;refine zb1 ?_;refine br (λc2=>?_) (λc2=>?_)
   · refine ⟨(η1.t η2),?_⟩
     simp [zum (by omega) c2]
   refine zaB ?_;refine ⟨m2-1,by omega,k+1,by omega,by simp,η2,?_⟩;exact zsG (by omega) hinv c2
 refine ⟨(η1.t η2),?_⟩;simp [zun (by omega) hinv]
def ow (s:DState) (i:Int):Int:=s.owner.getD i.toNat 0
theorem zsH {s:DState} {i:Nat} (h:i<s.owner.length):s.owner[i]=ow s i:=by unfold ow;rw [List.getD_eq_getElem?_getD,Int.toNat_natCast,List.getElem?_eq_getElem h];rfl
theorem zoO {s:DState} {i:Int} (h0:0≤i) (h:i.toNat<s.owner.length):s.owner[i.toNat]=ow s i:=by unfold ow;rw [List.getD_eq_getElem?_getD,List.getElem?_eq_getElem h];rfl
def stk (s:DState) (t:Int):List Int:=s.stacks.getD t.toNat []
theorem zdK {s:DState} {t:Int} (h:t.toNat<s.stacks.length):s.stacks[t.toNat]=stk s t:=by unfold stk;rw [List.getD_eq_getElem?_getD,List.getElem?_eq_getElem h];rfl
def atI (c:DCode) (s:DState) (t:Int):DIns:=zan c (zcH s t).toNat
theorem zev {s:DState} {t:Int} (h:0≤zcH s t):0≤t∧t.toNat<s.stacks.length:=by
 unfold zcH at h;split at h
 · assumption
 omega
theorem zlR {s:DState} {t:Int} (h0:0≤t) (h1:t.toNat<s.stacks.length):zcH s t=(stk s t).getLastD (-1):=by
 unfold zcH;rw [dif_pos ⟨h0,h1⟩,zdK h1]
theorem zoP {l:List Int} (h:l≠[]):l.getLastD (-1)=st l (l.length-1):=by
 unfold st;rw [List.getLastD_eq_getLast?,List.getLast?_eq_getElem?,List.getD_eq_getElem?_getD];have:l.length-1<l.length:=by have:=List.length_pos_iff.2 h;omega
 rw [List.getElem?_eq_getElem this];rfl
theorem zlS {c:DCode} {s:DState} (hs:zaF c s) (t:Int):-1≤zcH s t∧zcH s t<c.ins.length:=by
 by_cases h:0≤t∧t.toNat<s.stacks.length
 · rw [zlR h.1 h.2]
   by_cases hn:stk s t=[]
   · rw [hn];simp [List.getLastD];omega
   have hl:=List.length_pos_iff.2 hn;have hm:=hs.2.2.2.2.2 (stk s t) (by rw [←zdK h.2];exact List.getElem_mem _);rw [zoP hn];have:=hm.2.1 ((stk s t).length-1) (by omega);omega
 unfold zcH;rw [dif_neg h];omega
theorem zfO {c:DCode} (hc:CodeR c) {j:Nat} (hj:j<c.ins.length):zgx c (zan c j) (en c (zaH c j).toNat) (zeU c (zaH c j)+1):=hc.2.2 j hj
theorem zpV {c:DCode} (hc:CodeR c) {j:Nat} (hj:j<c.ins.length) (h:(zan c j).op=6∨(zan c j).op=7):0≤(zan c j).arg∧(zan c j).arg<c.locks.length:=by
 have:=(zfO hc hj).2.1;unfold zbQ at this
 rwa [if_neg (by omega),if_neg (by omega),if_pos h] at this
theorem NamesR.locks6 {c:DCode} (h:NamesR c):c.locks.length≤6:=by
 have h1:=h.2.1;simp only [Bool.and_eq_true,decide_eq_true_eq] at h1;omega
theorem NamesR.globals6 {c:DCode} (h:NamesR c):c.globals.length≤6:=by
 have h1:=h.1;simp only [Bool.and_eq_true,decide_eq_true_eq] at h1;omega
theorem zlT {c:DCode} {s:DState} (hs:zaF c s) {i:Int} (h0:0≤i) (h:i.toNat<s.owner.length):-1≤ow s i∧ow s i<s.stacks.length:=by
 rw [←zoO h0 h];exact hs.2.2.2.2.1 _ (List.getElem_mem _)
theorem zhm {c:DCode} {s:DState} {t:Int} (hc:CodeR c) (hs:zaF c s) (h:0≤zcH s t):zgx c (atI c s t) (en c (zaH c (zcH s t)).toNat) (zeU c (zaH c (zcH s t))+1):=by
 have:=zlS hs t;have h1:=zfO hc (j:=(zcH s t).toNat) (by omega)
 rwa [Int.toNat_of_nonneg h] at h1
theorem zdN {c:DCode} {s:DState} {t:Int} (hc:CodeR c) (hs:zaF c s) (h:0≤zcH s t) (ho:(atI c s t).op=6∨(atI c s t).op=7):0≤(atI c s t).arg∧(atI c s t).arg.toNat<s.owner.length:=by
 have:=zlS hs t;have h1:=zpV hc (j:=(zcH s t).toNat) (by omega) ho;have h2:=hs.2.1;unfold atI;omega
def F92 (a0 a1:Value) (w:World) (R:VW):Prop:=
 oX 36 a0 w λx2 w=>
 rB .lss 3 T0 U0 a1 (iV 0) w λx6=>
 BR x6
 (R (iV (-1)) w)
 (rF 36 x2 1 w λx9=>
 rL 25 x9 w λx10=>
 rN 25 3 x10 w λx11=>
 rB .geq 3 T0 T0 a1 x11 w λx12=>
 BR x12
 (R (iV (-1)) w)
 (rF 36 x2 1 w λx14=>
 rL 25 x14 w λx15=>
 rX 25 x15 a1 w λx17=>
 rL 3 x17 w λx18=>
 rD (Builtin.max_ #[3,3] 3 [x18,(iV (-1))].toArray) w λx19=>
 R x19 w))
theorem F92_call {a0 a1 w R} (h:F92 a0 a1 w R):cL 92 [a0,a1] w R:=co (g:=(kf [] [] [])) Tryz.func92 h
theorem zgN {w:World} {v0:Value} {W0:World} {s:DState} {i:Int}  (h0:Is W0 v0 s) (e0:Ext W0 w) (hi0:0≤i) (hi1:i.toNat<s.owner.length) :
   CALL tp 92 [v0,.int .i64 i] w λr w'=>Ext w w'∧(r=.int .i64 (max (ow s i) (-1))):=by
 refine F92_call ?_;unfold F92;refine zao zcT rfl h0 e0 λw1_ η1 hA2 hV2=>?_;refine zaf ?_;refine br (λc1=>?_) (λc1=>?_)
 · refine ⟨η1,?_⟩
   exact absurd c1 (by omega)
 refine zaa zc2 ?_;refine zab zaK (zbu hA2) (Ext.refl w1_) λv10 h10=>?_;have hln11:=zah h10;refine zae u25 h10 ?_;refine zbW ?_;refine br (λc2=>?_) (λc2=>?_)
 · refine ⟨η1,?_⟩
   exact absurd c2 (by omega)
 refine zaa zc2 ?_;refine zab zaK (zbu hA2) (Ext.refl w1_) λv15 h15=>?_;refine zax u25 ty3 h15 (by omega) (by omega) λb17 o17 h17=>?_;refine zac ty3 h17 (Ext.refl w1_) λhI18=>?_;refine zw5 ?_;refine ⟨η1,?_⟩;rw [zoO hi0 hi1]
def GoR (c:DCode) (s:DState) (t:Int):Prop:=0≤zcH s t∧((atI c s t).op=6→ow s (atI c s t).arg=-1)∧((atI c s t).op=4→((stk s t).length:Int)<8)
instance (c:DCode) (s:DState) (t:Int):Decidable (GoR c s t):=by unfold GoR;infer_instance
def F94 (a0 a1 a2:Value) (w:World) (R:VW):Prop:=
 oX 28 a0 w λx3 w=>
 oX 36 a1 w λx4 w=>
 rL 36 x4 w λx8=>
 cL 159 [x8,a2] w λx10 w=>
 rB .lss 3 T0 U0 x10 (iV 0) w λx12=>
 BR x12
 (R vF w)
 (rF 28 x3 4 w λx13=>
 rL 26 x13 w λx14=>
 rX 26 x14 x10 w λx16=>
 rF 118 x16 0 w λx17=>
 rL 3 x17 w λx18=>
 rQ x18 (iV 6) w λx20=>
 BR x20
 ((λw=>rF 36 x4 1 w λx21=>
 rL 25 x21 w λx22=>
 rF 28 x3 4 w λx23=>
 rL 26 x23 w λx24=>
 rX 26 x24 x10 w λx26=>
 rF 118 x26 1 w λx27=>
 rL 3 x27 w λx28=>
 rX 25 x22 x28 w λx29=>
 rL 3 x29 w λx30=>
 rQ x30 (iV (-1)) w λx31=>
 R x31 w) (World.drew1 w))
 (rQ x18 (iV 4) w λx33=>
 BR x33
 (rF 36 x4 2 w λx34=>
 rL 33 x34 w λx35=>
 rX 33 x35 a2 w λx37=>
 rL 25 x37 w λx38=>
 rN 25 3 x38 w λx39=>
 rB .lss 3 T0 U0 x39 (iV 8) w λx40=>
 R x40 w)
 (R vT w)))
theorem F94_call {a0 a1 a2 w R} (h:F94 a0 a1 a2 w R):cL 94 [a0,a1,a2] w R:=co (g:=(kf [] [] [(6,[0,1,2,3,4,5,6,7,8,9,10,11],0)])) Tryz.func94 h
theorem zpW {w:World} {v0:Value} {W0:World} {c:DCode} {v1:Value} {W1:World} {s:DState} {t:Int}  (h0:Is W0 v0 c) (e0:Ext W0 w) (h1:Is W1 v1 s) (e1:Ext W1 w) (hc:CodeR c) (hs:zaF c s) :
   CALL tp 94 [v0,v1,.int .i64 t] w λr w'=>Ext w w'∧(r=.bool (decide (GoR c s t))):=by
 refine F94_call ?_;unfold F94;have hat:=zlS hs t;refine zao zcv rfl h0 e0 λw1_ η1 hA3 hV3=>?_;refine zao zcT rfl h1 (e1.trans η1) λw2_ η2 hA4 hV4=>?_;refine zau hV4 (Ext.refl w2_) ?_;refine (zot h1 (e1.trans (η1.t η2))).mono ?_;rintro _ w3_ ⟨η3,rfl⟩;refine zaf ?_;refine br (λc1=>?_) (λc1=>?_)
 · refine ⟨(η1.t (η2.t η3)),?_⟩
   have:¬GoR c s t:=λh=>by have:=h.1;omega
   simp only [this,decide_false]
 refine zaa zaR ?_;refine zab zdn (zal hA3) (η2.t η3) λv14 h14=>?_;refine zax u26 zbm h14 (by omega) (by omega) λb16 o16 h16=>?_;rw [zaE] at h16;change At _ _ _ (atI c s t) at h16;have hat0:0≤zcH s t:=by omega
 have hth:=zev hat0;refine zaa za6 ?_;refine zac ty3 (zaA h16) (η2.t η3) λhI18=>?_;refine zag ?_;refine br (λc2=>?_) (λc2=>?_)
 · have η4:=zai w3_
   refine zaa zc2 ?_;refine zab zaK (zbu hA4) (η3.t η4) λv22 h22=>?_;refine zaa zaR ?_;refine zab zdn (zal hA3) (η2.t (η3.t η4)) λv24 h24=>?_;refine zax u26 zbm h24 (by omega) (by omega) λb26 o26 h26=>?_;rw [zaE] at h26;change At _ _ _ (atI c s t) at h26;have hlk:=zdN hc hs hat0 (.inl c2);refine zaa zaZ ?_;refine zac ty3 (zaw h26) (η2.t (η3.t η4)) λhI28=>?_;refine zax u25 ty3 h22 (by omega) (by omega) λb29 o29 h29=>?_;refine zac ty3 h29 (η3.t η4) λhI30=>?_;refine zag ?_;refine ⟨(η1.t (η2.t (η3.t η4))),?_⟩;congr 1;rw [decide_eq_decide,zoO hlk.1 hlk.2];exact ⟨λh=>⟨hat0,λ_=>h,λh4=>by omega⟩,λh=>h.2.1 c2⟩
 refine zag ?_;refine br (λc3=>?_) (λc3=>?_)
 · refine zaa zaW ?_
   refine zab zd5 (zay hA4) η3 λv35 h35=>?_;refine zax u33 zaK h35 (by omega) (by omega) λb37 o37 h37=>?_;refine zab zaK h37 η3 λv38 h38=>?_;have hln39:=zah h38;refine zae u25 h38 ?_;refine zaf ?_;refine ⟨(η1.t (η2.t η3)),?_⟩;congr 1;rw [decide_eq_decide,zdK hth.2];exact ⟨λh=>⟨hat0,λh6=>by omega,λ_=>h⟩,λh=>h.2.2 c3⟩
 refine ⟨(η1.t (η2.t η3)),?_⟩;have:GoR c s t:=⟨hat0,λh6=>absurd h6 c2,λh4=>absurd h4 c3⟩;simp only [this,decide_true]
def F51 (a0 a1 a2:Value) (w:World) (R:VW):Prop:=
 oX 28 a0 w λx3 w=>
 oX 36 a1 w λx4 w=>
 rL 36 x4 w λx8=>
 cL 67 [x8,a2] w λx10 w=>
 rL 28 x3 w λx11=>
 cL 95 [x11,x10] w λx13 w=>
 rT x13 w λx14=>
 BR x14
 (R vF w)
 (rF 28 x3 4 w λx15=>
 rL 26 x15 w λx16=>
 rX 26 x16 x10 w λx18=>
 rF 118 x18 0 w λx19=>
 rL 3 x19 w λx20=>
 rQ x20 (iV 6) w λx22=>
 BR x22
 ((λw=>rL 36 x4 w λx23=>
 rF 28 x3 4 w λx24=>
 rL 26 x24 w λx25=>
 rX 26 x25 x10 w λx27=>
 rF 118 x27 1 w λx28=>
 rL 3 x28 w λx29=>
 cL 92 [x23,x29] w λx30 w=>
 rB .lss 3 T0 U0 x30 (iV 0) w λx31=>
 R x31 w) (World.drew1 w))
 (rQ x20 (iV 4) w λx33=>
 BR x33
 (rF 36 x4 2 w λx34=>
 rL 33 x34 w λx35=>
 rX 33 x35 a2 w λx37=>
 rL 25 x37 w λx38=>
 rN 25 3 x38 w λx39=>
 rB .lss 3 T0 U0 x39 (iV 8) w λx40=>
 R x40 w)
 (R vT w)))
theorem F51_call {a0 a1 a2 w R} (h:F51 a0 a1 a2 w R):cL 51 [a0,a1,a2] w R:=co (g:=(kf [] [] [(6,[0,1,2,3,4,5,6,7,8,9],0)])) Tryz.func51 h
theorem zsI {w:World} {v0:Value} {W0:World} {c:DCode} {v1:Value} {W1:World} {s:DState} {t:Int}  (h0:Is W0 v0 c) (e0:Ext W0 w) (h1:Is W1 v1 s) (e1:Ext W1 w) (hc:CodeR c) (hs:zaF c s) :
   CALL tp 51 [v0,v1,.int .i64 t] w λr w'=>Ext w w'∧(r=.bool (decide (GoR c s t))):=by
 refine F51_call ?_;unfold F51;have hat:=zlS hs t;refine zao zcv rfl h0 e0 λw1_ η1 hA3 hV3=>?_;refine zao zcT rfl h1 (e1.trans η1) λw2_ η2 hA4 hV4=>?_;refine zau hV4 (Ext.refl w2_) ?_;refine (zjn h1 (e1.trans (η1.t η2))).mono ?_;rintro _ w3_ ⟨η3,rfl⟩;refine zau hV3 (η2.t η3) ?_;refine (zgd h0 (e0.t (η1.t (η2.t η3)))).mono ?_;rintro _ w4_ ⟨η4,rfl⟩;refine zav ?_;refine br (λc1=>?_) (λc1=>?_)
 · refine ⟨(η1.t (η2.t (η3.t η4))),?_⟩
   have:¬GoR c s t:=λh=>by have:=h.1;omega
   simp only [this,decide_false]
 refine zaa zaR ?_;refine zab zdn (zal hA3) (η2.t (η3.t η4)) λv16 h16=>?_;refine zax u26 zbm h16 (by omega) (by omega) λb18 o18 h18=>?_;rw [zaE] at h18;change At _ _ _ (atI c s t) at h18;have hat0:0≤zcH s t:=by omega
 have hth:=zev hat0;refine zaa za6 ?_;refine zac ty3 (zaA h18) (η2.t (η3.t η4)) λhI20=>?_;refine zag ?_;refine br (λc2=>?_) (λc2=>?_)
 · have η5:=zai w4_
   refine zau hV4 (η3.t (η4.t η5)) ?_;refine zaa zaR ?_;refine zab zdn (zal hA3) (η2.t (η3.t (η4.t η5))) λv25 h25=>?_;refine zax u26 zbm h25 (by omega) (by omega) λb27 o27 h27=>?_;rw [zaE] at h27;change At _ _ _ (atI c s t) at h27;have hlk:=zdN hc hs hat0 (.inl c2);have hor:=zlT hs hlk.1 hlk.2;refine zaa zaZ ?_;refine zac ty3 (zaw h27) (η2.t (η3.t (η4.t η5))) λhI29=>?_;refine (zgN h1 (e1.trans (η1.t (η2.t (η3.t (η4.t η5))))) (by omega) (by omega)).mono ?_;rintro _ w6_ ⟨η6,rfl⟩;refine zaf ?_;refine ⟨(η1.t (η2.t (η3.t (η4.t (η5.t η6))))),?_⟩;congr 1;rw [decide_eq_decide];exact ⟨λh=>⟨hat0,λ_=>by omega,λh4=>by omega⟩,λh=>by have:=h.2.1 c2;omega⟩
 refine zag ?_;refine br (λc3=>?_) (λc3=>?_)
 · refine zaa zaW ?_
   refine zab zd5 (zay hA4) (η3.t η4) λv35 h35=>?_;refine zax u33 zaK h35 (by omega) (by omega) λb37 o37 h37=>?_;refine zab zaK h37 (η3.t η4) λv38 h38=>?_;have hln39:=zah h38;refine zae u25 h38 ?_;refine zaf ?_;refine ⟨(η1.t (η2.t (η3.t η4))),?_⟩;congr 1;rw [decide_eq_decide,zdK hth.2];exact ⟨λh=>⟨hat0,λh6=>by omega,λ_=>h⟩,λh=>h.2.2 c3⟩
 refine ⟨(η1.t (η2.t (η3.t η4))),?_⟩;have:GoR c s t:=⟨hat0,λh6=>absurd h6 c2,λh4=>absurd h4 c3⟩;simp only [this,decide_true]
def F54 (a0 a1 a2:Value) (w:World) (R:VW):Prop:=
 oX 28 a0 w λx3 w=>
 oX 36 a1 w λx4 w=>
 rL 28 x3 w λx7=>
 rL 36 x4 w λx8=>
 cL 48 [x7,x8] w λx9 w=>
 BR x9
 (rL 28 x3 w λx11=>
 rL 36 x4 w λx12=>
 cL 94 [x11,x12,a2] w λx14 w=>
 R x14 w)
 (R vF w)
theorem F54_call {a0 a1 a2 w R} (h:F54 a0 a1 a2 w R):cL 54 [a0,a1,a2] w R:=co (g:=(kf [] [] [])) Tryz.func54 h
theorem znd {w:World} {v0:Value} {W0:World} {c:DCode} {v1:Value} {W1:World} {s:DState} {t:Int}  (h0:Is W0 v0 c) (e0:Ext W0 w) (h1:Is W1 v1 s) (e1:Ext W1 w)  :
   CALL tp 54 [v0,v1,.int .i64 t] w λr w'=>Ext w w'∧(r=.bool (decide ((CodeR c∧zaF c s)∧GoR c s t))):=by
 refine F54_call ?_;unfold F54;refine zao zcv rfl h0 e0 λw1_ η1 hA3 hV3=>?_;refine zao zcT rfl h1 (e1.trans η1) λw2_ η2 hA4 hV4=>?_;refine zau hV3 η2 ?_;refine zau hV4 (Ext.refl w2_) ?_;refine (zgy h0 (e0.t (η1.t η2)) h1 (e1.trans (η1.t η2))).mono ?_;rintro _ w3_ ⟨η3,rfl⟩;refine br (λc1=>?_) (λc1=>?_)
 · refine zau hV3 (η2.t η3) ?_
   refine zau hV4 η3 ?_;refine (zpW h0 (e0.t (η1.t (η2.t η3))) h1 (e1.trans (η1.t (η2.t η3))) c1.1 c1.2).mono ?_;rintro _ w4_ ⟨η4,rfl⟩;refine ⟨(η1.t (η2.t (η3.t η4))),?_⟩;simp [c1]
 refine ⟨(η1.t (η2.t η3)),?_⟩;simp [c1]
def zbc (c:DCode) (s:DState) (t:Int):Int:=if 0≤zcH s t∧(atI c s t).op=6∧0≤ow s (atI c s t).arg then (atI c s t).arg else -1
def F91 (a0 a1 a2:Value) (w:World) (R:VW):Prop:=
 oX 28 a0 w λx3 w=>
 oX 36 a1 w λx4 w=>
 rL 36 x4 w λx8=>
 cL 67 [x8,a2] w λx10 w=>
 (λw=>rL 28 x3 w λx11=>
 cL 95 [x11,x10] w λx13 w=>
 rT x13 w λx14=>
 BR x14
 (R (iV (-1)) w)
 (rF 28 x3 4 w λx16=>
 rL 26 x16 w λx17=>
 rX 26 x17 x10 w λx19=>
 rF 118 x19 0 w λx20=>
 rL 3 x20 w λx21=>
 rB .neq 3 T0 U0 x21 (iV 6) w λx22=>
 BR x22
 (R (iV (-1)) w)
 (rL 36 x4 w λx25=>
 rF 28 x3 4 w λx26=>
 rL 26 x26 w λx27=>
 rX 26 x27 x10 w λx29=>
 rF 118 x29 1 w λx30=>
 rL 3 x30 w λx31=>
 cL 92 [x25,x31] w λx32 w=>
 rB .lss 3 T0 U0 x32 (iV 0) w λx33=>
 BR x33
 (R (iV (-1)) w)
 (rF 28 x3 4 w λx35=>
 rL 26 x35 w λx36=>
 rX 26 x36 x10 w λx38=>
 rF 118 x38 1 w λx39=>
 rL 3 x39 w λx40=>
 R x40 w)))) (World.drew1 w)
theorem F91_call {a0 a1 a2 w R} (h:F91 a0 a1 a2 w R):cL 91 [a0,a1,a2] w R:=co (g:=(kf [] [] [(2,[0,1,2,3,4,5,6,7,8,9,10,11,12,13,14,15,16,17,18,19,20,21,22,23],0)])) Tryz.func91 h
theorem zuo {w:World} {v0:Value} {W0:World} {c:DCode} {v1:Value} {W1:World} {s:DState} {t:Int}  (h0:Is W0 v0 c) (e0:Ext W0 w) (h1:Is W1 v1 s) (e1:Ext W1 w) (hc:CodeR c) (hs:zaF c s) :
   CALL tp 91 [v0,v1,.int .i64 t] w λr w'=>Ext w w'∧(r=.int .i64 (zbc c s t)):=by
 refine F91_call ?_;unfold F91;have hat:=zlS hs t;refine zao zcv rfl h0 e0 λw1_ η1 hA3 hV3=>?_;refine zao zcT rfl h1 (e1.trans η1) λw2_ η2 hA4 hV4=>?_;refine zau hV4 (Ext.refl w2_) ?_;refine (zjn h1 (e1.trans (η1.t η2))).mono ?_;rintro _ w3_ ⟨η3,rfl⟩;have η4:=zai w3_;refine zau hV3 (η2.t (η3.t η4)) ?_;refine (zgd h0 (e0.t (η1.t (η2.t (η3.t η4))))).mono ?_;rintro _ w5_ ⟨η5,rfl⟩;refine zav ?_;refine br (λc1=>?_) (λc1=>?_)
 · refine ⟨(η1.t (η2.t (η3.t (η4.t η5)))),?_⟩
   unfold zbc;rw [if_neg (by omega)]
 refine zaa zaR ?_;refine zab zdn (zal hA3) (η2.t (η3.t (η4.t η5))) λv17 h17=>?_;refine zax u26 zbm h17 (by omega) (by omega) λb19 o19 h19=>?_;rw [zaE] at h19;change At _ _ _ (atI c s t) at h19;have hat0:0≤zcH s t:=by omega
 refine zaa za6 ?_;refine zac ty3 (zaA h19) (η2.t (η3.t (η4.t η5))) λhI21=>?_;refine zaV ?_;refine br (λc2=>?_) (λc2=>?_)
 · refine ⟨(η1.t (η2.t (η3.t (η4.t η5)))),?_⟩
   unfold zbc;rw [if_neg (λh=>c2 h.2.1)]
 refine zau hV4 (η3.t (η4.t η5)) ?_;refine zaa zaR ?_;refine zab zdn (zal hA3) (η2.t (η3.t (η4.t η5))) λv27 h27=>?_;refine zax u26 zbm h27 (by omega) (by omega) λb29 o29 h29=>?_;rw [zaE] at h29;change At _ _ _ (atI c s t) at h29;have hlk:=zdN hc hs hat0 (.inl (Decidable.not_not.1 c2));refine zaa zaZ ?_;refine zac ty3 (zaw h29) (η2.t (η3.t (η4.t η5))) λhI31=>?_;refine (zgN h1 (e1.trans (η1.t (η2.t (η3.t (η4.t η5))))) (by omega) (by omega)).mono ?_;rintro _ w6_ ⟨η6,rfl⟩;refine zaf ?_;refine br (λc3=>?_) (λc3=>?_)
 · refine ⟨(η1.t (η2.t (η3.t (η4.t (η5.t η6))))),?_⟩
   unfold zbc;rw [if_neg (by omega)]
 refine zaa zaR ?_;refine zab zdn (zal hA3) (η2.t (η3.t (η4.t (η5.t η6)))) λv36 h36=>?_;refine zax u26 zbm h36 (by omega) (by omega) λb38 o38 h38=>?_;rw [zaE] at h38;change At _ _ _ (atI c s t) at h38;refine zaa zaZ ?_;refine zac ty3 (zaw h38) (η2.t (η3.t (η4.t (η5.t η6)))) λhI40=>?_;refine ⟨(η1.t (η2.t (η3.t (η4.t (η5.t η6))))),?_⟩;unfold zbc;rw [if_pos ⟨hat0,by omega,by omega⟩]
def zdw (c:DCode) (s:DState):Nat→List Int
 | 0=>[]
 | k+1=>if GoR c s k then zdw c s k++[(k:Int)] else zdw c s k
theorem zgO (c:DCode) (s:DState):∀ k,(zdw c s k).length≤k
 | 0=>Nat.le_refl _
 | k+1=>by
   have:=zgO c s k;rw [zdw];split
   · simp;omega
   omega
def zd2 (c:DCode) (s:DState):List Int:=zdw c s s.stacks.length
def F49 (a0 a1:Value) (w:World) (R:VW):Prop:=
 oX 28 a0 w λx2 w=>
 oX 36 a1 w λx3 w=>
 oP (Instr.buildSlice 25 0 #[]) w λx7 w=>
 LOOPI [5,6] [x7,(iV 0)] w λu3 w n3=>
 rF 36 x3 2 w λx9=>
 rL 33 x9 w λx10=>
 rN 33 3 x10 w λx11=>
 rC (u3 6) x11 w λx12=>
 BR x12
 (rL 28 x2 w λx15=>
 rL 36 x3 w λx16=>
 cL 94 [x15,x16,(u3 6)] w λx18 w=>
 BR x18
 (oP (bS 25 (u3 6)) w λx21 w=>
 oP (aP 25 (u3 5) x21) w λx22 w=>
 rI (u3 6) w λx14=>
 n3 [x22,x14] w)
 (rI (u3 6) w λx14=>
 n3 [(u3 5),x14] w))
 (R (u3 5) w)
theorem F49_call {a0 a1 w R} (h:F49 a0 a1 w R):cL 49 [a0,a1] w R:=co (g:=(kf [] [(3,8388448,[5,6])] [])) Tryz.func49 h
theorem zoQ {w:World} {v0:Value} {W0:World} {c:DCode} {v1:Value} {W1:World} {s:DState}  (h0:Is W0 v0 c) (e0:Ext W0 w) (h1:Is W1 v1 s) (e1:Ext W1 w) (hc:CodeR c) (hs:zaF c s) :
   CALL tp 49 [v0,v1] w λr w'=>Ext w w'∧(Own w.heap.size w' r (zd2 c s)):=by
 refine F49_call ?_;unfold F49;have hmany:=hs.2.2.1;have σe0:=e0.size;have σe1:=e1.size;refine zao zcv rfl h0 e0 λw1_ η1 hA2 hV2=>?_;have σ1:=η1.size;refine zao zcT rfl h1 (e1.trans η1) λw2_ η2 hA3 hV3=>?_;have σ2:=η2.size;refine zaQ (α:=Int) u25 ty3 λv7 w3_ η3 o7=>?_;have σ3:=η3.size;refine zat (s.stacks.length) (λk us w'=>∃ v:Value,us=[v,.int .i64 (k:Int)]∧Ext w3_ w'∧(RowI w3_.heap.size w'.heap.size 3 w' v (zdw c s k))) (0) (by omega) ⟨_,rfl,Ext.refl w3_,zcw _ _ _ _ _⟩ ?_;rintro k m3 uu3 w4_ hk3 ⟨v5,hu,η4,hrow⟩;have σ4:=η4.size;obtain ⟨hu0,hu1⟩:=zd4 hu;try rw [hu0]
 try rw [hu1]
 try clear hu0 hu1
 have hrl:=zgO c s k;refine zaa zaW ?_;refine zab zd5 (zay hA3) (η3.t η4) λv10 h10=>?_;have hln11:=zah h10;refine zae u33 h10 ?_;refine zaf ?_;refine br (λc1=>?_) (λc1=>?_)
 · refine zau hV2 (η2.t (η3.t η4)) ?_
   refine zau hV3 (η3.t η4) ?_;refine (zpW h0 (e0.t (η1.t (η2.t (η3.t η4)))) h1 (e1.trans (η1.t (η2.t (η3.t η4)))) (by assumption) (by assumption)).mono ?_;rintro _ w5_ ⟨η5,rfl⟩;have σ5:=η5.size;refine br (λc2=>?_) (λc2=>?_)
   · refine zcn (α:=Int) u25 ty3 z3 zc3 (by decide) (hrow.ext η5) (by omega) (ownI_int (lo:=w5_.heap.size) (hi:=w5_.heap.size) (by first | assumption | (unfold I64 at *;omega))) (by omega) (by omega) (by rw [zak];omega) (by omega) λv22 w6_ hc6_ o22=>?_
     have σhc6_:=hc6_.size;have o7_c6:=(o7.ext (η4.t η5)).chg hc6_ (by omega);refine zaB ?_;refine ⟨m3-1,by omega,k+1,by omega,_,rfl,(Ext.chgI (η4.t η5) hc6_ (by omega)),?_⟩;rw [zdw,if_pos c2];exact o22
   refine zaB ?_;refine ⟨m3-1,by omega,k+1,by omega,_,rfl,(η4.t η5),?_⟩;rw [zdw,if_neg c2];exact (hrow.ext η5).mono (by omega) (by omega)
 refine ⟨(η1.t (η2.t (η3.t η4))),?_⟩;have:k=s.stacks.length:=by omega
 subst this;exact hrow.own.own.mono (by omega)
def F50 (a0 a1:Value) (w:World) (R:VW):Prop:=
 oX 28 a0 w λx2 w=>
 oX 36 a1 w λx3 w=>
 rF 36 x3 2 w λx7=>
 rL 33 x7 w λx8=>
 rN 33 3 x8 w λx9=>
 LOOPI [5,10] [(Value.slice none 0 0),(iV 0)] w λu3 w n3=>
 rC (u3 10) x9 w λx11=>
 BR x11
 (rL 28 x2 w λx13=>
 rL 36 x3 w λx14=>
 cL 51 [x13,x14,(u3 10)] w λx16 w=>
 BR x16
 (oP (bS 25 (u3 10)) w λx19 w=>
 oP (aP 25 (u3 5) x19) w λx20 w=>
 rI (u3 10) w λx21=>
 n3 [x20,x21] w)
 (rI (u3 10) w λx21=>
 n3 [(u3 5),x21] w))
 (R (u3 5) w)
theorem F50_call {a0 a1 w R} (h:F50 a0 a1 w R):cL 50 [a0,a1] w R:=co (g:=(kf [] [(3,4193376,[5,10])] [])) Tryz.func50 h
theorem zqW {w:World} {v0:Value} {W0:World} {c:DCode} {v1:Value} {W1:World} {s:DState}  (h0:Is W0 v0 c) (e0:Ext W0 w) (h1:Is W1 v1 s) (e1:Ext W1 w) (hc:CodeR c) (hs:zaF c s) :
   CALL tp 50 [v0,v1] w λr w'=>Ext w w'∧(Own w.heap.size w' r (zd2 c s)):=by
 refine F50_call ?_;unfold F50;have hmany:=hs.2.2.1;have σe0:=e0.size;have σe1:=e1.size;refine zao zcv rfl h0 e0 λw1_ η1 hA2 hV2=>?_;have σ1:=η1.size;refine zao zcT rfl h1 (e1.trans η1) λw2_ η2 hA3 hV3=>?_;have σ2:=η2.size;refine zaa zaW ?_;refine zab zd5 (zay hA3) (Ext.refl w2_) λv8 h8=>?_;have hln9:=zah h8;refine zae u33 h8 ?_;refine zat (s.stacks.length) (λk us w'=>∃ v:Value,us=[v,.int .i64 (k:Int)]∧Ext w2_ w'∧(RowI w2_.heap.size w'.heap.size 3 w' v (zdw c s k))) (0) (by omega) ⟨_,rfl,Ext.refl w2_,zcm _ _ _ _⟩ ?_;rintro k m3 uu3 w3_ hk3 ⟨v5,hu,η3,hrow⟩;have σ3:=η3.size;obtain ⟨hu0,hu1⟩:=zd4 hu;try rw [hu0]
 try rw [hu1]
 try clear hu0 hu1
 have hrl:=zgO c s k;refine zaf ?_;refine br (λc1=>?_) (λc1=>?_)
 · refine zau hV2 (η2.t η3) ?_
   refine zau hV3 η3 ?_;refine (zsI h0 (e0.t (η1.t (η2.t η3))) h1 (e1.trans (η1.t (η2.t η3))) (by assumption) (by assumption)).mono ?_;rintro _ w4_ ⟨η4,rfl⟩;have σ4:=η4.size;refine br (λc2=>?_) (λc2=>?_)
   · refine zcn (α:=Int) u25 ty3 z3 zc3 (by decide) (hrow.ext η4) (by omega) (ownI_int (lo:=w4_.heap.size) (hi:=w4_.heap.size) (by first | assumption | (unfold I64 at *;omega))) (by omega) (by omega) (by rw [zak];omega) (by omega) λv20 w5_ hc5_ o20=>?_
     have σhc5_:=hc5_.size;refine zaB ?_;refine ⟨m3-1,by omega,k+1,by omega,_,rfl,(Ext.chgI (η3.t η4) hc5_ (by omega)),?_⟩;rw [zdw,if_pos c2];exact o20
   refine zaB ?_;refine ⟨m3-1,by omega,k+1,by omega,_,rfl,(η3.t η4),?_⟩;rw [zdw,if_neg c2];exact (hrow.ext η4).mono (by omega) (by omega)
 refine ⟨(η1.t (η2.t η3)),?_⟩;have:k=s.stacks.length:=by omega
 subst this;exact hrow.own.own.mono (by omega)
def zjO (c:DCode) (s:DState):List Int:=if CodeR c∧zaF c s then zd2 c s else []
def F14 (a0 a1:Value) (w:World) (R:VW):Prop:=
 oX 28 a0 w λx2 w=>
 oX 36 a1 w λx3 w=>
 rL 28 x2 w λx5=>
 rL 36 x3 w λx6=>
 cL 48 [x5,x6] w λx7 w=>
 rT x7 w λx8=>
 BR x8
 (oP (Instr.buildSlice 25 0 #[]) w λx9 w=>
 R x9 w)
 (rL 28 x2 w λx10=>
 rL 36 x3 w λx11=>
 cL 49 [x10,x11] w λx12 w=>
 R x12 w)
theorem F14_call {a0 a1 w R} (h:F14 a0 a1 w R):cL 14 [a0,a1] w R:=co (g:=(kf [] [] [])) Tryz.func14 h
theorem zkw {w:World} {v0:Value} {W0:World} {c:DCode} {v1:Value} {W1:World} {s:DState}  (h0:Is W0 v0 c) (e0:Ext W0 w) (h1:Is W1 v1 s) (e1:Ext W1 w)  :
   CALL tp 14 [v0,v1] w λr w'=>Ext w w'∧(Own w.heap.size w' r (zjO c s)):=by
 refine F14_call ?_;unfold F14;have σe0:=e0.size;have σe1:=e1.size;refine zao zcv rfl h0 e0 λw1_ η1 hA2 hV2=>?_;have σ1:=η1.size;refine zao zcT rfl h1 (e1.trans η1) λw2_ η2 hA3 hV3=>?_;have σ2:=η2.size;refine zau hV2 η2 ?_;refine zau hV3 (Ext.refl w2_) ?_;refine (zgy h0 (e0.t (η1.t η2)) h1 (e1.trans (η1.t η2))).mono ?_;rintro _ w3_ ⟨η3,rfl⟩;have σ3:=η3.size;refine zav ?_;refine br (λc1=>?_) (λc1=>?_)
 · refine zaQ (α:=Int) u25 ty3 λv9 w4_ η4 o9=>?_
   have σ4:=η4.size;refine ⟨(η1.t (η2.t (η3.t η4))),?_⟩;unfold zjO;rw [if_neg c1];exact o9.own.own.mono (by omega)
 refine zau hV2 (η2.t η3) ?_;refine zau hV3 η3 ?_;refine (zoQ h0 (e0.t (η1.t (η2.t η3))) h1 (e1.trans (η1.t (η2.t η3))) (Decidable.not_not.1 c1).1 (Decidable.not_not.1 c1).2).mono ?_;rintro r12 w5_ ⟨η5,o12⟩;have o12:=o12.toI;have σ5:=η5.size;refine ⟨(η1.t (η2.t (η3.t η5))),?_⟩;unfold zjO;rw [if_pos (Decidable.not_not.1 c1)];exact o12.own.mono (by omega)
def zff (c:DCode) (s:DState):Prop:=(CodeR c∧zaF c s)∧¬znc s∧zd2 c s=[]
instance (c:DCode) (s:DState):Decidable (zff c s):=by unfold zff;infer_instance
def F16 (a0 a1:Value) (w:World) (R:VW):Prop:=
 oX 28 a0 w λx2 w=>
 oX 36 a1 w λx3 w=>
 rL 28 x2 w λx5=>
 rL 36 x3 w λx6=>
 cL 44 [x5,x6] w λx7 w=>
 BR x7
 (rL 28 x2 w λx9=>
 rL 36 x3 w λx10=>
 cL 50 [x9,x10] w λx11 w=>
 rN 25 3 x11 w λx12=>
 rQ x12 (iV 0) w λx13=>
 BR x13
 (rL 36 x3 w λx16=>
 cL 15 [x16] w λx17 w=>
 rT x17 w λx18=>
 R x18 w)
 (R vF w))
 (R vF w)
theorem F16_call {a0 a1 w R} (h:F16 a0 a1 w R):cL 16 [a0,a1] w R:=co (g:=(kf [] [] [])) Tryz.func16 h
theorem ziH {w:World} {v0:Value} {W0:World} {c:DCode} {v1:Value} {W1:World} {s:DState}  (h0:Is W0 v0 c) (e0:Ext W0 w) (h1:Is W1 v1 s) (e1:Ext W1 w)  :
   CALL tp 16 [v0,v1] w λr w'=>Ext w w'∧(r=.bool (decide (zff c s))):=by
 refine F16_call ?_;unfold F16;refine zao zcv rfl h0 e0 λw1_ η1 hA2 hV2=>?_;refine zao zcT rfl h1 (e1.trans η1) λw2_ η2 hA3 hV3=>?_;refine zau hV2 η2 ?_;refine zau hV3 (Ext.refl w2_) ?_;refine (zeV h0 (e0.t (η1.t η2)) h1 (e1.trans (η1.t η2))).mono ?_;rintro _ w3_ ⟨η3,rfl⟩;refine br (λc1=>?_) (λc1=>?_)
 · refine zau hV2 (η2.t η3) ?_
   refine zau hV3 η3 ?_;refine (zqW h0 (e0.t (η1.t (η2.t η3))) h1 (e1.trans (η1.t (η2.t η3))) c1.1 c1.2).mono ?_;rintro r11 w4_ ⟨η4,o11⟩;have hln12:=zah o11.is;refine zae u25 o11.is ?_;refine zag ?_;refine br (λc2=>?_) (λc2=>?_)
   · refine zau hV3 (η3.t η4) ?_
     refine (zhl h1 (e1.trans (η1.t (η2.t (η3.t η4))))).mono ?_;rintro _ w5_ ⟨η5,rfl⟩;refine zav ?_;refine ⟨(η1.t (η2.t (η3.t (η4.t η5)))),?_⟩;congr 1;rw [decide_eq_decide];exact ⟨λh=>⟨c1,h,List.eq_nil_of_length_eq_zero (by omega)⟩,λh=>h.2.1⟩
   refine ⟨(η1.t (η2.t (η3.t η4))),?_⟩;have:¬zff c s:=λh=>c2 (by rw [h.2.2];rfl);simp only [this,decide_false]
 refine ⟨(η1.t (η2.t η3)),?_⟩;have:¬zff c s:=λh=>c1 h.1;simp only [this,decide_false]
theorem zhn {n:Int} (h:0≤n):n.tmod 1000=n%1000:=Int.tmod_eq_emod_of_nonneg h
theorem ziX {n:Int} (h:n<0):n.tmod 1000=-((-n)%1000):=by
 have h1:(-n).tmod 1000=(-n)%1000:=Int.tmod_eq_emod_of_nonneg (by omega);rw [Int.neg_tmod] at h1;omega
theorem zsJ (n:Int):-1000<n.tmod 1000∧n.tmod 1000<1000:=by
 rcases Int.lt_or_le n 0 with h | h
 · rw [ziX h];omega
 rw [zhn h];omega
def F160 (a0:Value) (w:World) (R:VW):Prop:=
 rB .rem 3 T0 U0 a0 (iV 1000) w λx4=>
 rA x4 (iV 1000) w λx5=>
 rB .rem 3 T0 U0 x5 (iV 1000) w λx6=>
 R x6 w
theorem F160_call {a0 w R} (h:F160 a0 w R):cL 160 [a0] w R:=co (g:=(kf [] [] [])) Tryz.func160 h
theorem zjP {w:World} {n:Int}   (hn:I64 n) :
   CALL tp 160 [.int .i64 n] w λr w'=>Ext w w'∧(r=.int .i64 (n%1000)):=by
 refine F160_call ?_;unfold F160;have ht:=zsJ n;refine zjd (by omega) ?_;refine zcG (by unfold I64;omega) ?_;refine zjd (by omega) ?_;refine ⟨Ext.refl w,?_⟩;congr 1;rw [zhn (n:=n.tmod 1000+1000) (by omega)];rcases Int.lt_or_le n 0 with h | h
 · rw [ziX h];omega
 rw [zhn h];omega
def F161 (a0:Value) (w:World) (R:VW):Prop:=
 BR a0
 (R (iV 1) w)
 (R (iV 0) w)
theorem F161_call {a0 w R} (h:F161 a0 w R):cL 161 [a0] w R:=co (g:=(kf [] [] [])) Tryz.func161 h
theorem zho {w:World} {b:Bool}    :
   CALL tp 161 [.bool b] w λr w'=>Ext w w'∧(r=.int .i64 (if b=true then 1 else 0)):=by
 refine F161_call ?_;unfold F161;refine zcd (λc1=>?_) (λc1=>?_)
 · refine ⟨Ext.refl w,?_⟩
   rw [if_pos c1]
 refine ⟨Ext.refl w,?_⟩;rw [if_neg (by simp [c1])]
def F225 (a0:Value) (w:World) (R:VW):Prop:=
 BR a0
 (R (iV 1) w)
 (R (iV 0) w)
theorem F225_call {a0 w R} (h:F225 a0 w R):cL 225 [a0] w R:=co (g:=(kf [] [] [])) Tryz.func225 h
theorem zfP {w:World} {b:Bool}    :
   CALL tp 225 [.bool b] w λr w'=>Ext w w'∧(r=.int .i64 (if b=true then 1 else 0)):=by
 refine F225_call ?_;unfold F225;refine zcd (λc1=>?_) (λc1=>?_)
 · refine ⟨Ext.refl w,?_⟩
   rw [if_pos c1]
 refine ⟨Ext.refl w,?_⟩;rw [if_neg (by simp [c1])]
def F224 (a0:Value) (w:World) (R:VW):Prop:=
 rB .rem 3 T0 U0 a0 (iV 1000) w λx4=>
 rB .lss 3 T0 U0 x4 (iV 0) w λx6=>
 BR x6
 (rA x4 (iV 1000) w λx8=>
 R x8 w)
 (R x4 w)
theorem F224_call {a0 w R} (h:F224 a0 w R):cL 224 [a0] w R:=co (g:=(kf [] [] [])) Tryz.func224 h
theorem zfQ {w:World} {n:Int}   (hn:I64 n) :
   CALL tp 224 [.int .i64 n] w λr w'=>Ext w w'∧(r=.int .i64 (n%1000)):=by
 refine F224_call ?_;unfold F224;have ht:=zsJ n;refine zjd (by omega) ?_;refine zaf ?_;refine br (λc1=>?_) (λc1=>?_)
 · refine zcG (by unfold I64;omega) ?_
   refine ⟨Ext.refl w,?_⟩;congr 1;rcases Int.lt_or_le n 0 with h | h
   · rw [ziX h] at c1 ⊢;try omega
   rw [zhn h] at c1 ⊢;try omega
 refine ⟨Ext.refl w,?_⟩;congr 1;rcases Int.lt_or_le n 0 with h | h
 · rw [ziX h] at c1 ⊢;try omega
 rw [zhn h] at c1 ⊢;try omega
def zaC:DTerm:=.mk 0 0 (ByteArray.mk #[]) []
def workT (names:List ByteArray) (vals:List Int):Nat→DTerm→Int
 | n,t=>if t.kind=1 then t.num%1000 else if t.kind=2 then (if 0≤plc t.name names∧plc t.name names<vals.length then vals.getD (plc t.name names).toNat 0%1000 else 0) else
   match n with
   | 0=>0
   | m+1=>
     if t.kind=8 then (if workT names vals m (t.kids.getD 0 zaC)=0 then 1 else 0)
     else if t.kind=3 then (workT names vals m (t.kids.getD 0 zaC)+workT names vals m (t.kids.getD 1 zaC))%1000
     else if t.kind=4 then (workT names vals m (t.kids.getD 0 zaC)-workT names vals m (t.kids.getD 1 zaC))%1000
     else if t.kind=5 then (workT names vals m (t.kids.getD 0 zaC)*workT names vals m (t.kids.getD 1 zaC))%1000
     else if t.kind=6 then (if workT names vals m (t.kids.getD 0 zaC)<workT names vals m (t.kids.getD 1 zaC) then 1 else 0)
     else if t.kind=7 then (if workT names vals m (t.kids.getD 0 zaC)=workT names vals m (t.kids.getD 1 zaC) then 1 else 0)
     else (if workT names vals m (t.kids.getD 0 zaC)≠0∧workT names vals m (t.kids.getD 1 zaC)≠0 then 1 else 0)
theorem zaT (names:List ByteArray) (vals:List Int) (n:Nat) (t:DTerm):workT names vals n t=(if t.kind=1 then t.num%1000 else if t.kind=2 then (if 0≤plc t.name names∧plc t.name names<vals.length then vals.getD (plc t.name names).toNat 0%1000 else 0) else
   match n with
   | 0=>0
   | m+1=>
     if t.kind=8 then (if workT names vals m (t.kids.getD 0 zaC)=0 then 1 else 0)
     else if t.kind=3 then (workT names vals m (t.kids.getD 0 zaC)+workT names vals m (t.kids.getD 1 zaC))%1000
     else if t.kind=4 then (workT names vals m (t.kids.getD 0 zaC)-workT names vals m (t.kids.getD 1 zaC))%1000
     else if t.kind=5 then (workT names vals m (t.kids.getD 0 zaC)*workT names vals m (t.kids.getD 1 zaC))%1000
     else if t.kind=6 then (if workT names vals m (t.kids.getD 0 zaC)<workT names vals m (t.kids.getD 1 zaC) then 1 else 0)
     else if t.kind=7 then (if workT names vals m (t.kids.getD 0 zaC)=workT names vals m (t.kids.getD 1 zaC) then 1 else 0)
     else (if workT names vals m (t.kids.getD 0 zaC)≠0∧workT names vals m (t.kids.getD 1 zaC)≠0 then 1 else 0)):=workT.eq_def names vals n t
theorem zdb (names:List ByteArray) (vals:List Int) (n:Nat) (t:DTerm):0≤workT names vals n t∧workT names vals n t≤999:=by
 rw [zaT];cases n<;>simp only<;>(repeat' split)<;>omega
theorem zsK {n:Nat} {t:DTerm} (h:zaU n t=true) (h1:¬t.kind=1) (h2:¬t.kind=2):∃ m,n=m+1∧0<t.kids.length∧zaU m (t.kids.getD 0 zaC)=true∧(¬t.kind=8→1<t.kids.length∧zaU m (t.kids.getD 1 zaC)=true):=by
 rw [zbg h1 h2] at h;simp only [Bool.and_eq_true,decide_eq_true_eq] at h;obtain ⟨⟨_,h3⟩,h4⟩:=h;cases n with
 | zero=>simp at h4
 | succ m=>
   have hall:∀ k∈t.kids,zaU m k=true:=λk hk=>List.all_eq_true.1 h4 k hk
   have hg:∀ i,i<t.kids.length→zaU m (t.kids.getD i zaC)=true:=λi hi=>by
     rw [List.getD_eq_getElem?_getD,List.getElem?_eq_getElem hi];exact hall _ (List.getElem_mem hi)
   have hpos:0<t.kids.length:=by split at h3<;>omega
   exact ⟨m,rfl,hpos,hg 0 hpos,λh8=>by rw [if_neg h8] at h3;exact ⟨by omega,hg 1 (by omega)⟩⟩
def zup (f:Nat) (n:Nat):Prop:=∀ {w W W1 W2:World} {v v1 v2:Value} {t:DTerm} {names:List ByteArray} {vals:List Int},Is W v t→Ext W w→Is W1 v1 names→Ext W1 w→Is W2 v2 vals→Ext W2 w→zaU n t=true →
 CALL tp f [v,v1,v2] w λr w'=>Ext w w'∧r=.int .i64 (workT names vals n t)
def F97 (a0 a1 a2:Value) (w:World) (R:VW):Prop:=
 oX 116 a0 w λx3 w=>
 rF 116 x3 0 w λx10=>
 rL 3 x10 w λx11=>
 rQ x11 (iV 1) w λx13=>
 BR x13
 (rF 116 x3 1 w λx14=>
 rL 3 x14 w λx15=>
 cL 160 [x15] w λx16 w=>
 R x16 w)
 (rQ x11 (iV 2) w λx18=>
 BR x18
 (rF 116 x3 2 w λx20=>
 rL 9 x20 w λx21=>
 cL 113 [a1,x21] w λx22 w=>
 rB .lss 3 T0 U0 x22 (iV 0) w λx24=>
 BR x24
 (R (iV 0) w)
 (rN 25 3 a2 w λx28=>
 rB .geq 3 T0 T0 x22 x28 w λx29=>
 BR x29
 (R (iV 0) w)
 (rX 25 a2 x22 w λx33=>
 rL 3 x33 w λx34=>
 cL 160 [x34] w λx35 w=>
 R x35 w)))
 (rF 116 x3 3 w λx36=>
 rL 114 x36 w λx37=>
 rX 114 x37 (iV 0) w λx38=>
 rL 116 x38 w λx39=>
 cL 97 [x39,a1,a2] w λx42 w=>
 rF 116 x3 0 w λx43=>
 rL 3 x43 w λx44=>
 rQ x44 (iV 8) w λx45=>
 BR x45
 (rQ x42 (iV 0) w λx47=>
 cL 161 [x47] w λx48 w=>
 R x48 w)
 (rF 116 x3 3 w λx49=>
 rL 114 x49 w λx50=>
 rX 114 x50 (iV 1) w λx51=>
 rL 116 x51 w λx52=>
 cL 97 [x52,a1,a2] w λx55 w=>
 rF 116 x3 0 w λx56=>
 rL 3 x56 w λx57=>
 rQ x57 (iV 3) w λx59=>
 BR x59
 (rB .add 3 T0 T0 x42 x55 w λx62=>
 cL 160 [x62] w λx63 w=>
 R x63 w)
 (rQ x57 (iV 4) w λx65=>
 BR x65
 (rB .sub 3 T0 T0 x42 x55 w λx68=>
 cL 160 [x68] w λx69 w=>
 R x69 w)
 (rQ x57 (iV 5) w λx71=>
 BR x71
 (rB .mul 3 T0 T0 x42 x55 w λx74=>
 cL 160 [x74] w λx75 w=>
 R x75 w)
 (rQ x57 (iV 6) w λx77=>
 BR x77
 (rC x42 x55 w λx80=>
 cL 161 [x80] w λx81 w=>
 R x81 w)
 (rQ x57 (iV 7) w λx83=>
 BR x83
 (rB .eql 3 T0 T0 x42 x55 w λx86=>
 cL 161 [x86] w λx87 w=>
 R x87 w)
 (rB .neq 3 T0 U0 x42 (iV 0) w λx89=>
 BR x89
 (rB .neq 3 T0 U0 x55 (iV 0) w λx92=>
 cL 161 [x92] w λx94 w=>
 R x94 w)
 (cL 161 [vF] w λx94 w=>
 R x94 w)))))))))
theorem F97_call {a0 a1 a2 w R} (h:F97 a0 a1 a2 w R):cL 97 [a0,a1,a2] w R:=co (g:=(kf [] [] [])) Tryz.func97 h
theorem ziA {w:World} {v0:Value} {W0:World} {t:DTerm} {v1:Value} {W1:World} {names:(List ByteArray)} {v2:Value} {W2:World} {vals:(List Int)} {n:Nat} (h0:Is W0 v0 t) (e0:Ext W0 w) (h1:Is W1 v1 names) (e1:Ext W1 w) (h2:Is W2 v2 vals) (e2:Ext W2 w) (ih:∀ m,n=m+1→zup 97 m) (hok:zaU n t=true) :
   CALL tp 97 [v0,v1,v2] w λr w'=>Ext w w'∧(r=.int .i64 (workT names vals n t)):=by
 refine F97_call ?_;unfold F97;refine zao za4 rfl h0 e0 λw1_ η1 hA3 hV3=>?_;refine zaa zcZ ?_;refine zac ty3 (zbn hA3) (Ext.refl w1_) λhI11=>?_;refine zag ?_;refine br (λc1=>?_) (λc1=>?_)
 · refine zaa zdF ?_
   refine zac ty3 (zbM hA3) (Ext.refl w1_) λhI15=>?_;refine (zjP (by first | assumption | (unfold I64 at *;omega))).mono ?_;rintro _ w2_ ⟨η2,rfl⟩;refine ⟨(η1.t η2),?_⟩;rw [zaT names vals n t,if_pos c1]
 refine zag ?_;refine br (λc2=>?_) (λc2=>?_)
 · refine zaa zda ?_
   refine zaq ty9 (zbv hA3) (Ext.refl w1_) λhS21=>?_;refine (zgF h1 (e1.trans η1)).mono ?_;rintro _ w3_ ⟨η3,rfl⟩;refine zaf ?_;refine br (λc3=>?_) (λc3=>?_)
   · refine ⟨(η1.t η3),?_⟩
     rw [zaT,if_neg c1,if_pos c2,if_neg (by omega)]
   have hln28:=zah h2;refine zae u25 h2 ?_;refine zbW ?_;refine br (λc4=>?_) (λc4=>?_)
   · refine ⟨(η1.t η3),?_⟩
     rw [zaT,if_neg c1,if_pos c2,if_neg (by omega)]
   refine zax u25 ty3 h2 (by omega) (by omega) λb33 o33 h33=>?_;refine zac ty3 h33 (e2.trans (η1.t η3)) λhI34=>?_;refine (zjP (by first | assumption | (unfold I64 at *;omega))).mono ?_;rintro _ w4_ ⟨η4,rfl⟩;refine ⟨(η1.t (η3.t η4)),?_⟩;rw [zaT,if_neg c1,if_pos c2,if_pos (by omega)];congr 1;rw [List.getD_eq_getElem?_getD,List.getElem?_eq_getElem (by omega)];rfl
 refine zaa zbi ?_;refine zab zdj (zaG hA3) (Ext.refl w1_) λv37 h37=>?_;obtain ⟨m,hn1,hk0,hok0,hk1⟩:=zsK hok c1 c2;have hw0:=zdb names vals m (t.kids.getD 0 zaC);have hw1:=zdb names vals m (t.kids.getD 1 zaC);refine zax zgq za4 h37 (by omega) (by omega) λb38 o38 h38=>?_;have hgd:t.kids[(0:Int).toNat]'(by simpa using hk0)=t.kids.getD 0 zaC:=by rw [List.getD_eq_getElem?_getD,List.getElem?_eq_getElem hk0];rfl
 rw [hgd] at h38;refine zab za4 h38 (Ext.refl w1_) λv39 h39=>?_;refine (ih m hn1 h39 (Ext.refl w1_) h1 (e1.trans η1) h2 (e2.trans η1) (by assumption)).mono ?_;rintro _ w5_ ⟨η5,rfl⟩;refine zaa zcZ ?_;refine zac ty3 (zbn hA3) η5 λhI44=>?_;refine zag ?_;refine br (λc5=>?_) (λc5=>?_)
 · refine zag ?_
   refine (zho ).mono ?_;rintro _ w6_ ⟨η6,rfl⟩;refine ⟨(η1.t (η5.t η6)),?_⟩;rw [zaT names vals n t,if_neg c1,if_neg c2,hn1];simp only [c5,if_true,decide_eq_true_eq]
 refine zaa zbi ?_;refine zab zdj (zaG hA3) η5 λv50 h50=>?_;obtain ⟨hk2,hok1⟩:=hk1 c5;refine zax zgq za4 h50 (by omega) (by omega) λb51 o51 h51=>?_;have hgd1:t.kids[(1:Int).toNat]'(by simpa using hk2)=t.kids.getD 1 zaC:=by rw [List.getD_eq_getElem?_getD,List.getElem?_eq_getElem hk2];rfl
 rw [hgd1] at h51;refine zab za4 h51 η5 λv52 h52=>?_;refine (ih m hn1 h52 η5 h1 (e1.trans (η1.t η5)) h2 (e2.trans (η1.t η5)) (by assumption)).mono ?_;rintro _ w7_ ⟨η7,rfl⟩;refine zaa zcZ ?_;refine zac ty3 (zbn hA3) (η5.t η7) λhI57=>?_;refine zag ?_;refine br (λc6=>?_) (λc6=>?_)
 · refine zcG (by unfold I64;omega) ?_
   refine (zjP (by first | assumption | (unfold I64 at *;omega))).mono ?_;rintro _ w8_ ⟨η8,rfl⟩;refine ⟨(η1.t (η5.t (η7.t η8))),?_⟩;rw [zaT names vals n t,if_neg c1,if_neg c2,hn1]
   dsimp only
   generalize workT names vals m (t.kids.getD 0 zaC)=a at *;generalize workT names vals m (t.kids.getD 1 zaC)=b at *
   simp_all
 refine zag ?_;refine br (λc7=>?_) (λc7=>?_)
 · refine za0 (by unfold I64;omega) ?_
   refine (zjP (by first | assumption | (unfold I64 at *;omega))).mono ?_;rintro _ w9_ ⟨η9,rfl⟩;refine ⟨(η1.t (η5.t (η7.t η9))),?_⟩;rw [zaT names vals n t,if_neg c1,if_neg c2,hn1]
   dsimp only
   generalize workT names vals m (t.kids.getD 0 zaC)=a at *;generalize workT names vals m (t.kids.getD 1 zaC)=b at *
   simp_all
 refine zag ?_;refine br (λc8=>?_) (λc8=>?_)
 · refine zkH (by unfold I64;have h1:=Int.mul_nonneg hw0.1 hw1.1;have h2:=Int.mul_le_mul hw0.2 hw1.2 hw1.1 (by omega:(0:Int)≤999);omega) ?_
   have hmul:=Int.mul_nonneg hw0.1 hw1.1;have hmul2:=Int.mul_le_mul hw0.2 hw1.2 hw1.1 (by omega:(0:Int)≤999);refine (zjP (by first | assumption | (unfold I64 at *;omega))).mono ?_;rintro _ w10_ ⟨η10,rfl⟩;refine ⟨(η1.t (η5.t (η7.t η10))),?_⟩;rw [zaT names vals n t,if_neg c1,if_neg c2,hn1]
   dsimp only
   generalize workT names vals m (t.kids.getD 0 zaC)=a at *;generalize workT names vals m (t.kids.getD 1 zaC)=b at *
   simp_all
 refine zag ?_;refine br (λc9=>?_) (λc9=>?_)
 · refine zaf ?_
   refine (zho ).mono ?_;rintro _ w11_ ⟨η11,rfl⟩;refine ⟨(η1.t (η5.t (η7.t η11))),?_⟩;rw [zaT names vals n t,if_neg c1,if_neg c2,hn1]
   dsimp only
   generalize workT names vals m (t.kids.getD 0 zaC)=a at *;generalize workT names vals m (t.kids.getD 1 zaC)=b at *
   simp_all
 refine zag ?_;refine br (λc10=>?_) (λc10=>?_)
 · refine zag ?_
   refine (zho ).mono ?_;rintro _ w12_ ⟨η12,rfl⟩;refine ⟨(η1.t (η5.t (η7.t η12))),?_⟩;rw [zaT names vals n t,if_neg c1,if_neg c2,hn1]
   dsimp only
   generalize workT names vals m (t.kids.getD 0 zaC)=a at *;generalize workT names vals m (t.kids.getD 1 zaC)=b at *
   simp_all
 refine zaV ?_;refine br (λc11=>?_) (λc11=>?_)
 · refine zaV ?_
   refine (zho ).mono ?_;rintro _ w13_ ⟨η13,rfl⟩;refine ⟨(η1.t (η5.t (η7.t η13))),?_⟩;rw [zaT names vals n t,if_neg c1,if_neg c2,hn1]
   dsimp only
   generalize workT names vals m (t.kids.getD 0 zaC)=a at *;generalize workT names vals m (t.kids.getD 1 zaC)=b at *
   simp_all
 refine (zho ).mono ?_;rintro _ w14_ ⟨η14,rfl⟩;refine ⟨(η1.t (η5.t (η7.t η14))),?_⟩;rw [zaT names vals n t,if_neg c1,if_neg c2,hn1]
 dsimp only
 generalize workT names vals m (t.kids.getD 0 zaC)=a at *;generalize workT names vals m (t.kids.getD 1 zaC)=b at *
 simp_all
theorem zkX (n:Nat):zup 97 n:=by
 induction n with
 | zero=>intro w W W1 W2 v v1 v2 t names vals h e h1 e1 h2 e2 hok;exact ziA h e h1 e1 h2 e2 (λm hm=>by omega) hok
 | succ n ih=>intro w W W1 W2 v v1 v2 t names vals h e h1 e1 h2 e2 hok;exact ziA h e h1 e1 h2 e2 (λm hm=>Nat.succ.inj hm▸ih) hok
def F162 (a0 a1 a2:Value) (w:World) (R:VW):Prop:=
 oX 116 a0 w λx3 w=>
 rF 116 x3 0 w λx10=>
 rL 3 x10 w λx11=>
 rQ x11 (iV 1) w λx13=>
 BR x13
 (rF 116 x3 1 w λx14=>
 rL 3 x14 w λx15=>
 cL 224 [x15] w λx16 w=>
 R x16 w)
 (rQ x11 (iV 2) w λx18=>
 BR x18
 (LOOPI [7] [(iV 0)] w λu6 w n6=>
 rN 24 3 a1 w λx21=>
 rC (u6 7) x21 w λx22=>
 BR x22
 ((λw=>rX 24 a1 (u6 7) w λx27=>
 rL 9 x27 w λx28=>
 rF 116 x3 2 w λx29=>
 rL 9 x29 w λx30=>
 rB .eql 9 T0 T0 x28 x30 w λx31=>
 BR x31
 (rN 25 3 a2 w λx34=>
 rC (u6 7) x34 w λx35=>
 BR x35
 (rX 25 a2 (u6 7) w λx38=>
 rL 3 x38 w λx39=>
 cL 224 [x39] w λx40 w=>
 R x40 w)
 (R (iV 0) w))
 (rI (u6 7) w λx24=>
 n6 [x24] w)) (World.drew1 w))
 (R (iV 0) w))
 (rF 116 x3 3 w λx41=>
 rL 114 x41 w λx42=>
 rX 114 x42 (iV 0) w λx43=>
 rL 116 x43 w λx44=>
 cL 162 [x44,a1,a2] w λx47 w=>
 rF 116 x3 0 w λx48=>
 rL 3 x48 w λx49=>
 rQ x49 (iV 8) w λx50=>
 BR x50
 (rQ x47 (iV 0) w λx52=>
 cL 225 [x52] w λx53 w=>
 R x53 w)
 (rF 116 x3 3 w λx54=>
 rL 114 x54 w λx55=>
 rX 114 x55 (iV 1) w λx56=>
 rL 116 x56 w λx57=>
 cL 162 [x57,a1,a2] w λx60 w=>
 rF 116 x3 0 w λx61=>
 rL 3 x61 w λx62=>
 rQ x62 (iV 3) w λx64=>
 BR x64
 (rB .add 3 T0 T0 x47 x60 w λx67=>
 cL 224 [x67] w λx68 w=>
 R x68 w)
 (rQ x62 (iV 4) w λx70=>
 BR x70
 (rB .sub 3 T0 T0 x47 x60 w λx73=>
 cL 224 [x73] w λx74 w=>
 R x74 w)
 (rQ x62 (iV 5) w λx76=>
 BR x76
 (rB .mul 3 T0 T0 x47 x60 w λx79=>
 cL 224 [x79] w λx80 w=>
 R x80 w)
 (rQ x62 (iV 6) w λx82=>
 BR x82
 (rC x47 x60 w λx85=>
 cL 225 [x85] w λx86 w=>
 R x86 w)
 (rQ x62 (iV 7) w λx88=>
 BR x88
 (rB .eql 3 T0 T0 x47 x60 w λx91=>
 cL 225 [x91] w λx92 w=>
 R x92 w)
 (rB .neq 3 T0 U0 x47 (iV 0) w λx94=>
 BR x94
 (rB .neq 3 T0 U0 x60 (iV 0) w λx97=>
 cL 225 [x97] w λx99 w=>
 R x99 w)
 (cL 225 [vF] w λx99 w=>
 R x99 w)))))))))
theorem F162_call {a0 a1 a2 w R} (h:F162 a0 a1 a2 w R):cL 162 [a0,a1,a2] w R:=co (g:=(kf [] [(6,2199022731456,[7])] [(8,[0,1,2,3,4,5,6],0)])) Tryz.func162 h
theorem ziB {w:World} {v0:Value} {W0:World} {t:DTerm} {v1:Value} {W1:World} {names:(List ByteArray)} {v2:Value} {W2:World} {vals:(List Int)} {n:Nat} (h0:Is W0 v0 t) (e0:Ext W0 w) (h1:Is W1 v1 names) (e1:Ext W1 w) (h2:Is W2 v2 vals) (e2:Ext W2 w) (ih:∀ m,n=m+1→zup 162 m) (hok:zaU n t=true) :
   CALL tp 162 [v0,v1,v2] w λr w'=>Ext w w'∧(r=.int .i64 (workT names vals n t)):=by
 refine F162_call ?_;unfold F162;refine zao za4 rfl h0 e0 λw1_ η1 hA3 hV3=>?_;refine zaa zcZ ?_;refine zac ty3 (zbn hA3) (Ext.refl w1_) λhI11=>?_;refine zag ?_;refine br (λc1=>?_) (λc1=>?_)
 · refine zaa zdF ?_
   refine zac ty3 (zbM hA3) (Ext.refl w1_) λhI15=>?_;refine (zfQ (by first | assumption | (unfold I64 at *;omega))).mono ?_;rintro _ w2_ ⟨η2,rfl⟩;refine ⟨(η1.t η2),?_⟩;rw [zaT names vals n t,if_pos c1]
 refine zag ?_;refine br (λc2=>?_) (λc2=>?_)
 · refine zat (names.length) (λk us w'=>us=[.int .i64 (k:Int)]∧Ext w1_ w'∧(t.name∉names.take k)) (0) (by omega) ⟨by simp,Ext.refl w1_,by simp⟩ ?_
   rintro k m6 uu6 w3_ hk6 ⟨hu,η3,hinv⟩;try replace hu:=zbG hu
   try rw [hu]
   try clear hu
   have hnl:=zah h1;have hln21:=zah h1;refine zae u24 h1 ?_;refine zaf ?_;refine br (λc3=>?_) (λc3=>?_)
   · have η4:=zai w3_
     refine zad u24 ty9 h1 (by omega) λb27 o27 h27=>?_;refine zaq ty9 h27 (e1.trans (η1.t (η3.t η4))) λhS28=>?_;refine zaa zda ?_;refine zaq ty9 (zbv hA3) (η3.t η4) λhS30=>?_;refine zaS ?_;refine br (λc4=>?_) (λc4=>?_)
     · have hln34:=zah h2
       refine zae u25 h2 ?_;refine zaf ?_;refine br (λc5=>?_) (λc5=>?_)
       · refine zad u25 ty3 h2 (by omega) λb38 o38 h38=>?_
         refine zac ty3 h38 (e2.trans (η1.t (η3.t η4))) λhI39=>?_;refine (zfQ (by first | assumption | (unfold I64 at *;omega))).mono ?_;rintro _ w5_ ⟨η5,rfl⟩;refine ⟨(η1.t (η3.t (η4.t η5))),?_⟩;have hp:=zkN (s:=t.name) (l:=names) (k:=k) (by omega) hinv c4;rw [zaT names vals n t,if_neg c1,if_pos c2,hp,if_pos (by omega)];congr 1;rw [Int.toNat_natCast,List.getD_eq_getElem?_getD,List.getElem?_eq_getElem (by omega)];rfl
       refine ⟨(η1.t (η3.t η4)),?_⟩;have hp:=zkN (s:=t.name) (l:=names) (k:=k) (by omega) hinv c4;rw [zaT names vals n t,if_neg c1,if_pos c2,hp,if_neg (by omega)]
     refine zaB ?_;refine ⟨m6-1,by omega,k+1,by omega,by simp,(η3.t η4),?_⟩;exact zcA (by omega) hinv c4
   refine ⟨(η1.t η3),?_⟩;rw [List.take_of_length_le (by omega)] at hinv;rw [zaT names vals n t,if_neg c1,if_pos c2,ziQ hinv,if_neg (by omega)]
 refine zaa zbi ?_;refine zab zdj (zaG hA3) (Ext.refl w1_) λv42 h42=>?_;obtain ⟨m,hn1,hk0,hok0,hk1⟩:=zsK hok c1 c2;have hw0:=zdb names vals m (t.kids.getD 0 zaC);have hw1:=zdb names vals m (t.kids.getD 1 zaC);refine zax zgq za4 h42 (by omega) (by omega) λb43 o43 h43=>?_;have hgd:t.kids[(0:Int).toNat]'(by simpa using hk0)=t.kids.getD 0 zaC:=by rw [List.getD_eq_getElem?_getD,List.getElem?_eq_getElem hk0];rfl
 rw [hgd] at h43;refine zab za4 h43 (Ext.refl w1_) λv44 h44=>?_;refine (ih m hn1 h44 (Ext.refl w1_) h1 (e1.trans η1) h2 (e2.trans η1) (by assumption)).mono ?_;rintro _ w6_ ⟨η6,rfl⟩;refine zaa zcZ ?_;refine zac ty3 (zbn hA3) η6 λhI49=>?_;refine zag ?_;refine br (λc6=>?_) (λc6=>?_)
 · refine zag ?_
   refine (zfP ).mono ?_;rintro _ w7_ ⟨η7,rfl⟩;refine ⟨(η1.t (η6.t η7)),?_⟩;rw [zaT names vals n t,if_neg c1,if_neg c2,hn1];simp only [c6,if_true,decide_eq_true_eq]
 refine zaa zbi ?_;refine zab zdj (zaG hA3) η6 λv55 h55=>?_;obtain ⟨hk2,hok1⟩:=hk1 c6;refine zax zgq za4 h55 (by omega) (by omega) λb56 o56 h56=>?_;have hgd1:t.kids[(1:Int).toNat]'(by simpa using hk2)=t.kids.getD 1 zaC:=by rw [List.getD_eq_getElem?_getD,List.getElem?_eq_getElem hk2];rfl
 rw [hgd1] at h56;refine zab za4 h56 η6 λv57 h57=>?_;refine (ih m hn1 h57 η6 h1 (e1.trans (η1.t η6)) h2 (e2.trans (η1.t η6)) (by assumption)).mono ?_;rintro _ w8_ ⟨η8,rfl⟩;refine zaa zcZ ?_;refine zac ty3 (zbn hA3) (η6.t η8) λhI62=>?_;refine zag ?_;refine br (λc7=>?_) (λc7=>?_)
 · refine zcG (by unfold I64;omega) ?_
   refine (zfQ (by first | assumption | (unfold I64 at *;omega))).mono ?_;rintro _ w9_ ⟨η9,rfl⟩;refine ⟨(η1.t (η6.t (η8.t η9))),?_⟩;rw [zaT names vals n t,if_neg c1,if_neg c2,hn1]
   dsimp only
   generalize workT names vals m (t.kids.getD 0 zaC)=a at *;generalize workT names vals m (t.kids.getD 1 zaC)=b at *
   simp_all
 refine zag ?_;refine br (λc8=>?_) (λc8=>?_)
 · refine za0 (by unfold I64;omega) ?_
   refine (zfQ (by first | assumption | (unfold I64 at *;omega))).mono ?_;rintro _ w10_ ⟨η10,rfl⟩;refine ⟨(η1.t (η6.t (η8.t η10))),?_⟩;rw [zaT names vals n t,if_neg c1,if_neg c2,hn1]
   dsimp only
   generalize workT names vals m (t.kids.getD 0 zaC)=a at *;generalize workT names vals m (t.kids.getD 1 zaC)=b at *
   simp_all
 refine zag ?_;refine br (λc9=>?_) (λc9=>?_)
 · refine zkH (by unfold I64;have h1:=Int.mul_nonneg hw0.1 hw1.1;have h2:=Int.mul_le_mul hw0.2 hw1.2 hw1.1 (by omega:(0:Int)≤999);omega) ?_
   have hmul:=Int.mul_nonneg hw0.1 hw1.1;have hmul2:=Int.mul_le_mul hw0.2 hw1.2 hw1.1 (by omega:(0:Int)≤999);refine (zfQ (by first | assumption | (unfold I64 at *;omega))).mono ?_;rintro _ w11_ ⟨η11,rfl⟩;refine ⟨(η1.t (η6.t (η8.t η11))),?_⟩;rw [zaT names vals n t,if_neg c1,if_neg c2,hn1]
   dsimp only
   generalize workT names vals m (t.kids.getD 0 zaC)=a at *;generalize workT names vals m (t.kids.getD 1 zaC)=b at *
   simp_all
 refine zag ?_;refine br (λc10=>?_) (λc10=>?_)
 · refine zaf ?_
   refine (zfP ).mono ?_;rintro _ w12_ ⟨η12,rfl⟩;refine ⟨(η1.t (η6.t (η8.t η12))),?_⟩;rw [zaT names vals n t,if_neg c1,if_neg c2,hn1]
   dsimp only
   generalize workT names vals m (t.kids.getD 0 zaC)=a at *;generalize workT names vals m (t.kids.getD 1 zaC)=b at *
   simp_all
 refine zag ?_;refine br (λc11=>?_) (λc11=>?_)
 · refine zag ?_
   refine (zfP ).mono ?_;rintro _ w13_ ⟨η13,rfl⟩;refine ⟨(η1.t (η6.t (η8.t η13))),?_⟩;rw [zaT names vals n t,if_neg c1,if_neg c2,hn1]
   dsimp only
   generalize workT names vals m (t.kids.getD 0 zaC)=a at *;generalize workT names vals m (t.kids.getD 1 zaC)=b at *
   simp_all
 refine zaV ?_;refine br (λc12=>?_) (λc12=>?_)
 · refine zaV ?_
   refine (zfP ).mono ?_;rintro _ w14_ ⟨η14,rfl⟩;refine ⟨(η1.t (η6.t (η8.t η14))),?_⟩;rw [zaT names vals n t,if_neg c1,if_neg c2,hn1]
   dsimp only
   generalize workT names vals m (t.kids.getD 0 zaC)=a at *;generalize workT names vals m (t.kids.getD 1 zaC)=b at *
   simp_all
 refine (zfP ).mono ?_;rintro _ w15_ ⟨η15,rfl⟩;refine ⟨(η1.t (η6.t (η8.t η15))),?_⟩;rw [zaT names vals n t,if_neg c1,if_neg c2,hn1]
 dsimp only
 generalize workT names vals m (t.kids.getD 0 zaC)=a at *;generalize workT names vals m (t.kids.getD 1 zaC)=b at *
 simp_all
theorem zqX (n:Nat):zup 162 n:=by
 induction n with
 | zero=>intro w W W1 W2 v v1 v2 t names vals h e h1 e1 h2 e2 hok;exact ziB h e h1 e1 h2 e2 (λm hm=>by omega) hok
 | succ n ih=>intro w W W1 W2 v v1 v2 t names vals h e h1 e1 h2 e2 hok;exact ziB h e h1 e1 h2 e2 (λm hm=>Nat.succ.inj hm▸ih) hok
def F98 (a0 a1 a2:Value) (w:World) (R:VW):Prop:=
 oX 116 a0 w λx3 w=>
 rL 116 x3 w λx7=>
 cL 152 [x7] w λx8 w=>
 rT x8 w λx9=>
 BR x9
 (R (iV 0) w)
 (rL 116 x3 w λx10=>
 cL 162 [x10,a1,a2] w λx13 w=>
 R x13 w)
theorem F98_call {a0 a1 a2 w R} (h:F98 a0 a1 a2 w R):cL 98 [a0,a1,a2] w R:=co (g:=(kf [] [] [])) Tryz.func98 h
theorem zhp {w:World} {v0:Value} {W0:World} {t:DTerm} {v1:Value} {W1:World} {names:(List ByteArray)} {v2:Value} {W2:World} {vals:(List Int)}  (h0:Is W0 v0 t) (e0:Ext W0 w) (h1:Is W1 v1 names) (e1:Ext W1 w) (h2:Is W2 v2 vals) (e2:Ext W2 w) (hok:zaU 6 t=true) :
   CALL tp 98 [v0,v1,v2] w λr w'=>Ext w w'∧(r=.int .i64 (workT names vals 6 t)):=by
 refine F98_call ?_;unfold F98;refine zao za4 rfl h0 e0 λw1_ η1 hA3 hV3=>?_;refine zau hV3 (Ext.refl w1_) ?_;refine (zco h0 (e0.t η1)).mono ?_;rintro _ w2_ ⟨η2,rfl⟩;refine za1 ?_;refine zcd (λc1=>?_) (λc1=>?_)
 · refine ⟨(η1.t η2),?_⟩
   simp [hok] at c1
 refine zau hV3 η2 ?_;refine (zqX 6 h0 (e0.t (η1.t η2)) h1 (e1.trans (η1.t η2)) h2 (e2.trans (η1.t η2)) (by assumption)).mono ?_;rintro _ w3_ ⟨η3,rfl⟩;refine ⟨(η1.t (η2.t η3)),?_⟩;rfl
end Go.Proofs.YtakjaofncelghaaGreat
