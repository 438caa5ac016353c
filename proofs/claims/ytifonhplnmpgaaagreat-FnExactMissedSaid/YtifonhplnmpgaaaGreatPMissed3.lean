/-
  Parts of the proof, put together by program.
-/
import Derived.Test.YtifonhplnmpgaaaGreatPMissed2
set_option linter.unusedVariables false
set_option linter.unusedSimpArgs false
set_option linter.unusedSectionVars false
namespace Go.Sh
open Rep (rep)
inductive DTerm where
 | mk (kind num:Int) (name:ByteArray) (kids:List DTerm)
namespace DTerm
def kind:DTerm→Int | .mk k _ _ _=>k
def num:DTerm→Int | .mk _ n _ _=>n
def name:DTerm→ByteArray | .mk _ _ s _=>s
def kids:DTerm→List DTerm | .mk _ _ _ l=>l
def tup (t:DTerm):Int×Int×ByteArray×List DTerm:=(t.kind,t.num,t.name,t.kids)
end DTerm
theorem DTerm.eta (t:DTerm):DTerm.mk t.kind t.num t.name t.kids=t:=by cases t;rfl
theorem DTerm.ext_iff {x y:DTerm}:x=y↔(x.kind=y.kind∧x.num=y.num∧x.name=y.name∧x.kids=y.kids):=by
 constructor
 · intro h;rw [h];exact ⟨rfl,rfl,rfl,rfl⟩
 rintro ⟨h1,h2,h3,h4⟩;rw [←DTerm.eta x,←DTerm.eta y,h1,h2,h3,h4]
theorem DTerm.kid_lt {t k:DTerm} (h:k∈t.kids):SizeOf.sizeOf k<SizeOf.sizeOf t:=by
 cases t with
 | mk a b c l=>
   have:k∈l:=h;have:=List.sizeOf_lt_of_mem this;simp only [DTerm.mk.sizeOf_spec];omega
theorem DTerm.ind {p:DTerm→Prop} (h:∀ t,(∀ k∈t.kids,p k)→p t) (t:DTerm):p t:=
  h t λk hk=>DTerm.ind h k
termination_by SizeOf.sizeOf t
decreasing_by exact DTerm.kid_lt hk
mutual
def DTerm.beq:DTerm→DTerm→Bool
  | .mk a b c l,.mk a' b' c' l'=>decide (a=a')&&decide (b=b')&&decide (c=c')&&DTerm.beqL l l'
def DTerm.beqL:List DTerm→List DTerm→Bool
  | [],[]=>true
  | x :: l,y :: m=>DTerm.beq x y&&DTerm.beqL l m
  | _,_=>false
end
mutual
theorem DTerm.beq_iff:∀ (x y:DTerm),DTerm.beq x y=true↔x=y
  | .mk a b c l,.mk a' b' c' l'=>by
    simp only [DTerm.beq,Bool.and_eq_true,decide_eq_true_eq,DTerm.mk.injEq,DTerm.beqL_iff l l',and_assoc]
theorem DTerm.beqL_iff:∀ (x y:List DTerm),DTerm.beqL x y=true↔x=y
  | [],[]=>by simp [DTerm.beqL]
  | [],y :: m=>by simp [DTerm.beqL]
  | x :: l,[]=>by simp [DTerm.beqL]
  | x :: l,y :: m=>by simp only [DTerm.beqL,Bool.and_eq_true,DTerm.beq_iff x y,DTerm.beqL_iff l m,List.cons.injEq]
end
instance:DecidableEq DTerm:=λx y=>decidable_of_iff _ (DTerm.beq_iff x y)
mutual
def zqi:DTerm→List Nat→World→List Value→Prop
  | .mk k n s ks,F,w,cs=>∃ a cap Fi xs,cs=[.int .i64 k,.int .i64 n,.string s,.slice a ks.length cap]∧I64 k∧I64 n∧s.size≤maxLen∧ks.length≤cap∧cap≤maxLen∧zeQ ks Fi w xs ∧
    ((ks=[]∧F=[])∨∃ b o,a=some ⟨b,o,none⟩∧F=b :: Fi∧w.rangeAt b o xs∧b<w.heap.size)
def zeQ:List DTerm→List Nat→World→List Value→Prop
  | [],F,_,xs=>F=[]∧xs=[]
  | y :: ys,F,w,xs=>∃ F1 F2 c1 c2,F=F1++F2∧xs=c1++c2∧zqi y F1 w c1∧zeQ ys F2 w c2
end
theorem ztB {t:DTerm} {F:List Nat} {w:World} {cs:List Value} (h:zqi t F w cs):cs.length=4:=by
 cases t;rw [zqi] at h;obtain ⟨a,cap,Fi,xs,rfl,_⟩:=h;rfl
theorem ztC {t:DTerm} {F:List Nat} {w:World} {cs:List Value} (h:zqi t F w cs):∀ v∈cs,v.oneCell'=true:=by
 cases t;rw [zqi] at h;obtain ⟨a,cap,Fi,xs,rfl,_⟩:=h;intro v hv;simp only [List.mem_cons,List.not_mem_nil,or_false] at hv;rcases hv with rfl | rfl | rfl | rfl<;>rfl
mutual
theorem zmx:∀ (t:DTerm) {F:List Nat} {w w':World} {cs:List Value},zqi t F w cs→(∀ b∈F,w'.heap[b]?=w.heap[b]?)→zqi t F w' cs
  | .mk k n s ks,F,w,w',cs,h,hk=>by
    rw [zqi] at h ⊢;obtain ⟨a,cap,Fi,xs,hcs,i1,i2,i3,h1,h2,hc,h4⟩:=h;rcases h4 with ⟨rfl,rfl⟩ | ⟨b,o,ha,hF,hr,hb⟩
    · exact ⟨a,cap,Fi,xs,hcs,i1,i2,i3,h1,h2,by rw [zeQ] at hc ⊢;exact hc,.inl ⟨rfl,rfl⟩⟩
    subst hF;have hbb:=hk b (by simp);refine ⟨a,cap,Fi,xs,hcs,i1,i2,i3,h1,h2,zi8 ks hc λc hc=>hk c (by simp [hc]),.inr ⟨b,o,ha,rfl,zcZ hr hbb,?_⟩⟩;rcases Nat.lt_or_ge b (Array.size (World.heap w')) with h' | h'
    · exact h'
    rw [Array.getElem?_eq_none h'] at hbb;simp [Array.getElem?_eq_getElem hb] at hbb
theorem zi8:∀ (l:List DTerm) {F:List Nat} {w w':World} {cs:List Value},zeQ l F w cs→(∀ b∈F,w'.heap[b]?=w.heap[b]?)→zeQ l F w' cs
  | [],F,w,w',cs,h,_=>by rw [zeQ] at h ⊢;exact h
  | y :: ys,F,w,w',cs,h,hk=>by
    rw [zeQ] at h ⊢;obtain ⟨F1,F2,c1,c2,rfl,rfl,h1,h2⟩:=h;exact ⟨F1,F2,c1,c2,rfl,rfl,zmx y h1 λb hb=>hk b (by simp [hb]),zi8 ys h2 λb hb=>hk b (by simp [hb])⟩
end
mutual
theorem zry:∀ (t:DTerm) {F:List Nat} {w:World} {cs:List Value},zqi t F w cs→∀ b∈F,b<w.heap.size
  | .mk k n s ks,F,w,cs,h,c,hm=>by
    rw [zqi] at h;obtain ⟨a,cap,Fi,xs,hcs,i1,i2,i3,h1,h2,hc,h4⟩:=h;rcases h4 with ⟨rfl,rfl⟩ | ⟨b,o,ha,hF,hr,hb⟩
    · cases hm
    subst hF;rcases List.mem_cons.1 hm with rfl | hm
    · exact hb
    exact zmy ks hc c hm
theorem zmy:∀ (l:List DTerm) {F:List Nat} {w:World} {cs:List Value},zeQ l F w cs→∀ b∈F,b<w.heap.size
  | [],F,w,cs,h,c,hm=>by rw [zeQ] at h;rw [h.1] at hm;cases hm
  | y :: ys,F,w,cs,h,c,hm=>by
    rw [zeQ] at h;obtain ⟨F1,F2,c1,c2,rfl,rfl,h1,h2⟩:=h;rcases List.mem_append.1 hm with hm | hm
    · exact zry y h1 c hm
    exact zmy ys h2 c hm
end
instance:Rep DTerm where
 size:=4
 agg:=true
 rep F w cs x:=zqi x F w cs
 pos:=by decide
 sz h:=by cases h
 len h:=ztB h
 one h:=ztC h
 keep h hk:=zmx _ h hk
 lt h:=zry _ h
theorem zg0 {w:World}:∀ {l:List DTerm} {F:List Nat} {xs:List Value},zeQ l F w xs↔Cells F w xs l
 | [],F,xs=>by rw [zeQ];exact Iff.rfl
 | y :: ys,F,xs=>by
   rw [zeQ];constructor
   · rintro ⟨F1,F2,c1,c2,h1,h2,h3,h4⟩;exact ⟨F1,F2,c1,c2,h1,h2,h3,zg0.1 h4⟩
   rintro ⟨F1,F2,c1,c2,h1,h2,h3,h4⟩;exact ⟨F1,F2,c1,c2,h1,h2,h3,zg0.2 h4⟩
theorem zgq {w:World} {F:List Nat} {cs:List Value} {t:DTerm}:rep F w cs t↔rep F w cs t.tup:=by
 obtain ⟨k,n,s,ks⟩:=t;show zqi _ F w cs↔_;rw [zqi];constructor
 · rintro ⟨a,cap,Fi,xs,rfl,i1,i2,i3,h1,h2,hc,h4⟩
   refine ⟨[],F,[.int .i64 k],_,rfl,rfl,⟨rfl,rfl,i1⟩,[],F,[.int .i64 n],_,rfl,rfl,⟨rfl,rfl,i2⟩,[],F,[.string s],_,rfl,rfl,⟨rfl,rfl,i3⟩,a,cap,Fi,xs,rfl,h1,h2,zg0.1 hc,h4⟩
 rintro ⟨_,_,_,_,rfl,rfl,⟨rfl,rfl,i1⟩,_,_,_,_,rfl,rfl,⟨rfl,rfl,i2⟩,_,_,_,_,rfl,rfl,⟨rfl,rfl,i3⟩,a,cap,Fi,xs,rfl,h1,h2,hc,h4⟩;exact ⟨a,cap,Fi,xs,rfl,i1,i2,i3,h1,h2,zg0.2 hc,h4⟩
theorem zo6 {w:World} {b o:Nat} {t:DTerm}:At w b o t↔At w b o t.tup:=
 ⟨λ⟨F,cs,h,k⟩=>⟨F,cs,zgq.1 h,k⟩,λ⟨F,cs,h,k⟩=>⟨F,cs,zgq.2 h,k⟩⟩
theorem zrz {w:World} {G:List Nat} {b o:Nat} {t:DTerm}:OAt G w b o t↔OAt G w b o t.tup:=
 ⟨λ⟨cs,h,k⟩=>⟨cs,zgq.1 h,k⟩,λ⟨cs,h,k⟩=>⟨cs,zgq.2 h,k⟩⟩
section
variable {w:World} {b o:Nat}
theorem zbU {x:DTerm} (h:At w b o x):At w b (o+0) x.kind:=zcQ (α:=Int) (β:=Int×ByteArray×List DTerm) (p:=x.tup) (zo6.1 h)
theorem zbK {x:DTerm} (h:At w b o x):At w b (o+1) x.num:=zcQ (α:=Int) (β:=ByteArray×List DTerm) (p:=(x.num,x.name,x.kids)) (zbp (α:=Int) (β:=Int×ByteArray×List DTerm) (p:=x.tup) (zo6.1 h))
theorem zbl {x:DTerm} (h:At w b o x):At w b (o+2) x.name:=zcQ (α:=ByteArray) (β:=List DTerm) (p:=(x.name,x.kids)) (zbp (α:=Int) (β:=ByteArray×List DTerm) (p:=(x.num,x.name,x.kids)) (zbp (α:=Int) (β:=Int×ByteArray×List DTerm) (p:=x.tup) (zo6.1 h)))
theorem zaU {x:DTerm} (h:At w b o x):At w b (o+3) x.kids:=zbp (α:=ByteArray) (β:=List DTerm) (p:=(x.name,x.kids)) (zbp (α:=Int) (β:=ByteArray×List DTerm) (p:=(x.num,x.name,x.kids)) (zbp (α:=Int) (β:=Int×ByteArray×List DTerm) (p:=x.tup) (zo6.1 h)))
end
theorem Lens.term {w:World} {γ:Type} {H:List Nat→World→γ→Prop} {F:List Nat} {b o:Nat} {G:List Nat} {t:DTerm} {upd:DTerm→γ} (h:Lens H F w b o G t upd) :
   Lens H F w b o G t.tup (λp=>upd (.mk p.1 p.2.1 p.2.2.1 p.2.2.2)):=
 ⟨zrz.1 h.here,h.sub,λw' G' y' hc hO hs=>h.back w' G' _ hc (zrz.2 hO) hs⟩
instance:RepZ DTerm:=⟨.mk 0 0 ByteArray.empty [],RepZ.zc (Int×Int×ByteArray×List DTerm),λw=>zgq.2 (RepZ.zr (α:=Int×Int×ByteArray×List DTerm) w)⟩
section
variable {γ:Type} {H:List Nat→World→γ→Prop} {F:List Nat} {w:World} {b o:Nat} {G:List Nat} {x:DTerm} {upd:DTerm→γ}
theorem zfC (h:Lens H F w b o G x upd):∃ G1,Lens H F w b (o+0) G1 x.kind (λy=>upd (.mk y x.num x.name x.kids)):=by
 obtain ⟨G1,h1⟩:=h.term.fst;exact ⟨G1,h1⟩
theorem zfD (h:Lens H F w b o G x upd):∃ G1,Lens H F w b (o+1) G1 x.num (λy=>upd (.mk x.kind y x.name x.kids)):=by
 obtain ⟨G1,h1⟩:=h.term.snd;obtain ⟨G2,h2⟩:=h1.fst;exact ⟨G2,h2⟩
theorem zfE (h:Lens H F w b o G x upd):∃ G1,Lens H F w b (o+2) G1 x.name (λy=>upd (.mk x.kind x.num y x.kids)):=by
 obtain ⟨G1,h1⟩:=h.term.snd;obtain ⟨G2,h2⟩:=h1.snd;obtain ⟨G3,h3⟩:=h2.fst;exact ⟨G3,h3⟩
theorem zfF (h:Lens H F w b o G x upd):∃ G1,Lens H F w b (o+3) G1 x.kids (λy=>upd (.mk x.kind x.num x.name y)):=by
 obtain ⟨G1,h1⟩:=h.term.snd;obtain ⟨G2,h2⟩:=h1.snd;obtain ⟨G3,h3⟩:=h2.snd;exact ⟨G3,h3⟩
end
theorem zrA {P:Program} {t:TypeId} {n:Nat} (h:zdL P t (Int×Int×ByteArray×List DTerm) n):zdL P t DTerm n:=by
 intro H enc w spare held cs y hh;obtain ⟨F,x,hx⟩:=h H enc w spare held cs y hh;exact ⟨F,.mk x.1 x.2.1 x.2.2.1 x.2.2.2,zgq.2 hx⟩
structure DIns where
 op:Int
 arg:Int
 term:DTerm
 to:Int
theorem DIns.ext_iff {x y:DIns}:x=y↔(x.op=y.op∧x.arg=y.arg∧x.term=y.term∧x.to=y.to):=⟨λh=>by rw [h];exact ⟨rfl,rfl,rfl,rfl⟩,λh=>by obtain ⟨h0,h1,h2,h3⟩:=h;cases x;cases y;simp only at h0 h1 h2 h3;simp only [h0,h1,h2,h3]⟩
instance:DecidableEq DIns:=λx y=>decidable_of_iff (x.op=y.op∧x.arg=y.arg∧x.term=y.term∧x.to=y.to) DIns.ext_iff.symm
instance:Rep DIns:=Rep.via λx=>(x.op,x.arg,x.term,x.to)
theorem zav {w:World} {b o:Nat} {x:DIns} (h:At w b o x):At w b (o+0) x.op:=zcQ (α:=Int) (β:=Int×DTerm×Int) (p:=(x.op,x.arg,x.term,x.to)) h
theorem zat {w:World} {b o:Nat} {x:DIns} (h:At w b o x):At w b (o+1) x.arg:=zcQ (α:=Int) (β:=DTerm×Int) (p:=(x.arg,x.term,x.to)) (zbp (α:=Int) (β:=Int×DTerm×Int) (p:=(x.op,x.arg,x.term,x.to)) h)
theorem zbG {w:World} {b o:Nat} {x:DIns} (h:At w b o x):At w b (o+2) x.term:=zcQ (α:=DTerm) (β:=Int) (p:=(x.term,x.to)) (zbp (α:=Int) (β:=DTerm×Int) (p:=(x.arg,x.term,x.to)) (zbp (α:=Int) (β:=Int×DTerm×Int) (p:=(x.op,x.arg,x.term,x.to)) h))
theorem zbH {w:World} {b o:Nat} {x:DIns} (h:At w b o x):At w b (o+6) x.to:=zbp (α:=DTerm) (β:=Int) (p:=(x.term,x.to)) (zbp (α:=Int) (β:=DTerm×Int) (p:=(x.arg,x.term,x.to)) (zbp (α:=Int) (β:=Int×DTerm×Int) (p:=(x.op,x.arg,x.term,x.to)) h))
instance:RepZ DIns:=⟨⟨(RepZ.zv:Int),(RepZ.zv:Int),(RepZ.zv:DTerm),(RepZ.zv:Int)⟩,RepZ.zc (Int×Int×DTerm×Int),λw=>RepZ.zr (α:=Int×Int×DTerm×Int) w⟩
theorem zi9 {γ:Type} {H:List Nat→World→γ→Prop} {F:List Nat} {w:World} {b o:Nat} {G:List Nat} {x:DIns} {upd:DIns→γ} (h:Lens H F w b o G x upd) :
   ∃ G1,Lens H F w b (o+0) G1 x.op (λy=>upd ⟨y,x.arg,x.term,x.to⟩):=by
 have h':Lens H F w b o G (x.op,x.arg,x.term,x.to) (λp:Int×Int×DTerm×Int=>upd ⟨p.1,p.2.1,p.2.2.1,p.2.2.2⟩):=⟨h.here,h.sub,λw' G' y' hc hO hs=>h.back w' G' _ hc hO hs⟩;obtain ⟨G0,h'⟩:=h'.fst;exact ⟨_,h'⟩
theorem zja {γ:Type} {H:List Nat→World→γ→Prop} {F:List Nat} {w:World} {b o:Nat} {G:List Nat} {x:DIns} {upd:DIns→γ} (h:Lens H F w b o G x upd) :
   ∃ G1,Lens H F w b (o+1) G1 x.arg (λy=>upd ⟨x.op,y,x.term,x.to⟩):=by
 have h':Lens H F w b o G (x.op,x.arg,x.term,x.to) (λp:Int×Int×DTerm×Int=>upd ⟨p.1,p.2.1,p.2.2.1,p.2.2.2⟩):=⟨h.here,h.sub,λw' G' y' hc hO hs=>h.back w' G' _ hc hO hs⟩;obtain ⟨G0,h'⟩:=h'.snd;obtain ⟨G1,h'⟩:=h'.fst;exact ⟨_,h'⟩
theorem zef {γ:Type} {H:List Nat→World→γ→Prop} {F:List Nat} {w:World} {b o:Nat} {G:List Nat} {x:DIns} {upd:DIns→γ} (h:Lens H F w b o G x upd) :
   ∃ G1,Lens H F w b (o+2) G1 x.term (λy=>upd ⟨x.op,x.arg,y,x.to⟩):=by
 have h':Lens H F w b o G (x.op,x.arg,x.term,x.to) (λp:Int×Int×DTerm×Int=>upd ⟨p.1,p.2.1,p.2.2.1,p.2.2.2⟩):=⟨h.here,h.sub,λw' G' y' hc hO hs=>h.back w' G' _ hc hO hs⟩;obtain ⟨G0,h'⟩:=h'.snd;obtain ⟨G1,h'⟩:=h'.snd;obtain ⟨G2,h'⟩:=h'.fst;exact ⟨_,h'⟩
theorem zjb {γ:Type} {H:List Nat→World→γ→Prop} {F:List Nat} {w:World} {b o:Nat} {G:List Nat} {x:DIns} {upd:DIns→γ} (h:Lens H F w b o G x upd) :
   ∃ G1,Lens H F w b (o+6) G1 x.to (λy=>upd ⟨x.op,x.arg,x.term,y⟩):=by
 have h':Lens H F w b o G (x.op,x.arg,x.term,x.to) (λp:Int×Int×DTerm×Int=>upd ⟨p.1,p.2.1,p.2.2.1,p.2.2.2⟩):=⟨h.here,h.sub,λw' G' y' hc hO hs=>h.back w' G' _ hc hO hs⟩;obtain ⟨G0,h'⟩:=h'.snd;obtain ⟨G1,h'⟩:=h'.snd;obtain ⟨G2,h'⟩:=h'.snd;exact ⟨_,h'⟩
structure DCode where
 globals:List ByteArray
 locks:List ByteArray
 procs:List ByteArray
 entry:List Int
 ins:List DIns
theorem DCode.ext_iff {x y:DCode}:x=y↔(x.globals=y.globals∧x.locks=y.locks∧x.procs=y.procs∧x.entry=y.entry∧x.ins=y.ins):=⟨λh=>by rw [h];exact ⟨rfl,rfl,rfl,rfl,rfl⟩,λh=>by obtain ⟨h0,h1,h2,h3,h4⟩:=h;cases x;cases y;simp only at h0 h1 h2 h3 h4;simp only [h0,h1,h2,h3,h4]⟩
instance:DecidableEq DCode:=λx y=>decidable_of_iff (x.globals=y.globals∧x.locks=y.locks∧x.procs=y.procs∧x.entry=y.entry∧x.ins=y.ins) DCode.ext_iff.symm
instance:Rep DCode:=Rep.via λx=>(x.globals,x.locks,x.procs,x.entry,x.ins)
theorem za8 {w:World} {b o:Nat} {x:DCode} (h:At w b o x):At w b (o+0) x.globals:=zcQ (α:=List ByteArray) (β:=(List ByteArray)×(List ByteArray)×(List Int)×(List DIns)) (p:=(x.globals,x.locks,x.procs,x.entry,x.ins)) h
theorem za5 {w:World} {b o:Nat} {x:DCode} (h:At w b o x):At w b (o+1) x.locks:=zcQ (α:=List ByteArray) (β:=(List ByteArray)×(List Int)×(List DIns)) (p:=(x.locks,x.procs,x.entry,x.ins)) (zbp (α:=List ByteArray) (β:=(List ByteArray)×(List ByteArray)×(List Int)×(List DIns)) (p:=(x.globals,x.locks,x.procs,x.entry,x.ins)) h)
theorem zau {w:World} {b o:Nat} {x:DCode} (h:At w b o x):At w b (o+2) x.procs:=zcQ (α:=List ByteArray) (β:=(List Int)×(List DIns)) (p:=(x.procs,x.entry,x.ins)) (zbp (α:=List ByteArray) (β:=(List ByteArray)×(List Int)×(List DIns)) (p:=(x.locks,x.procs,x.entry,x.ins)) (zbp (α:=List ByteArray) (β:=(List ByteArray)×(List ByteArray)×(List Int)×(List DIns)) (p:=(x.globals,x.locks,x.procs,x.entry,x.ins)) h))
theorem zap {w:World} {b o:Nat} {x:DCode} (h:At w b o x):At w b (o+3) x.entry:=zcQ (α:=List Int) (β:=(List DIns)) (p:=(x.entry,x.ins)) (zbp (α:=List ByteArray) (β:=(List Int)×(List DIns)) (p:=(x.procs,x.entry,x.ins)) (zbp (α:=List ByteArray) (β:=(List ByteArray)×(List Int)×(List DIns)) (p:=(x.locks,x.procs,x.entry,x.ins)) (zbp (α:=List ByteArray) (β:=(List ByteArray)×(List ByteArray)×(List Int)×(List DIns)) (p:=(x.globals,x.locks,x.procs,x.entry,x.ins)) h)))
theorem zai {w:World} {b o:Nat} {x:DCode} (h:At w b o x):At w b (o+4) x.ins:=zbp (α:=List Int) (β:=(List DIns)) (p:=(x.entry,x.ins)) (zbp (α:=List ByteArray) (β:=(List Int)×(List DIns)) (p:=(x.procs,x.entry,x.ins)) (zbp (α:=List ByteArray) (β:=(List ByteArray)×(List Int)×(List DIns)) (p:=(x.locks,x.procs,x.entry,x.ins)) (zbp (α:=List ByteArray) (β:=(List ByteArray)×(List ByteArray)×(List Int)×(List DIns)) (p:=(x.globals,x.locks,x.procs,x.entry,x.ins)) h)))
instance:RepZ DCode:=⟨⟨(RepZ.zv:List ByteArray),(RepZ.zv:List ByteArray),(RepZ.zv:List ByteArray),(RepZ.zv:List Int),(RepZ.zv:List DIns)⟩,RepZ.zc ((List ByteArray)×(List ByteArray)×(List ByteArray)×(List Int)×(List DIns)),λw=>RepZ.zr (α:=(List ByteArray)×(List ByteArray)×(List ByteArray)×(List Int)×(List DIns)) w⟩
theorem zmz {γ:Type} {H:List Nat→World→γ→Prop} {F:List Nat} {w:World} {b o:Nat} {G:List Nat} {x:DCode} {upd:DCode→γ} (h:Lens H F w b o G x upd) :
   ∃ G1,Lens H F w b (o+0) G1 x.globals (λy=>upd ⟨y,x.locks,x.procs,x.entry,x.ins⟩):=by
 have h':Lens H F w b o G (x.globals,x.locks,x.procs,x.entry,x.ins) (λp:(List ByteArray)×(List ByteArray)×(List ByteArray)×(List Int)×(List DIns)=>upd ⟨p.1,p.2.1,p.2.2.1,p.2.2.2.1,p.2.2.2.2⟩):=⟨h.here,h.sub,λw' G' y' hc hO hs=>h.back w' G' _ hc hO hs⟩;obtain ⟨G0,h'⟩:=h'.fst;exact ⟨_,h'⟩
theorem zmA {γ:Type} {H:List Nat→World→γ→Prop} {F:List Nat} {w:World} {b o:Nat} {G:List Nat} {x:DCode} {upd:DCode→γ} (h:Lens H F w b o G x upd) :
   ∃ G1,Lens H F w b (o+1) G1 x.locks (λy=>upd ⟨x.globals,y,x.procs,x.entry,x.ins⟩):=by
 have h':Lens H F w b o G (x.globals,x.locks,x.procs,x.entry,x.ins) (λp:(List ByteArray)×(List ByteArray)×(List ByteArray)×(List Int)×(List DIns)=>upd ⟨p.1,p.2.1,p.2.2.1,p.2.2.2.1,p.2.2.2.2⟩):=⟨h.here,h.sub,λw' G' y' hc hO hs=>h.back w' G' _ hc hO hs⟩;obtain ⟨G0,h'⟩:=h'.snd;obtain ⟨G1,h'⟩:=h'.fst;exact ⟨_,h'⟩
theorem zmB {γ:Type} {H:List Nat→World→γ→Prop} {F:List Nat} {w:World} {b o:Nat} {G:List Nat} {x:DCode} {upd:DCode→γ} (h:Lens H F w b o G x upd) :
   ∃ G1,Lens H F w b (o+2) G1 x.procs (λy=>upd ⟨x.globals,x.locks,y,x.entry,x.ins⟩):=by
 have h':Lens H F w b o G (x.globals,x.locks,x.procs,x.entry,x.ins) (λp:(List ByteArray)×(List ByteArray)×(List ByteArray)×(List Int)×(List DIns)=>upd ⟨p.1,p.2.1,p.2.2.1,p.2.2.2.1,p.2.2.2.2⟩):=⟨h.here,h.sub,λw' G' y' hc hO hs=>h.back w' G' _ hc hO hs⟩;obtain ⟨G0,h'⟩:=h'.snd;obtain ⟨G1,h'⟩:=h'.snd;obtain ⟨G2,h'⟩:=h'.fst;exact ⟨_,h'⟩
theorem zmC {γ:Type} {H:List Nat→World→γ→Prop} {F:List Nat} {w:World} {b o:Nat} {G:List Nat} {x:DCode} {upd:DCode→γ} (h:Lens H F w b o G x upd) :
   ∃ G1,Lens H F w b (o+3) G1 x.entry (λy=>upd ⟨x.globals,x.locks,x.procs,y,x.ins⟩):=by
 have h':Lens H F w b o G (x.globals,x.locks,x.procs,x.entry,x.ins) (λp:(List ByteArray)×(List ByteArray)×(List ByteArray)×(List Int)×(List DIns)=>upd ⟨p.1,p.2.1,p.2.2.1,p.2.2.2.1,p.2.2.2.2⟩):=⟨h.here,h.sub,λw' G' y' hc hO hs=>h.back w' G' _ hc hO hs⟩;obtain ⟨G0,h'⟩:=h'.snd;obtain ⟨G1,h'⟩:=h'.snd;obtain ⟨G2,h'⟩:=h'.snd;obtain ⟨G3,h'⟩:=h'.fst;exact ⟨_,h'⟩
theorem zmD {γ:Type} {H:List Nat→World→γ→Prop} {F:List Nat} {w:World} {b o:Nat} {G:List Nat} {x:DCode} {upd:DCode→γ} (h:Lens H F w b o G x upd) :
   ∃ G1,Lens H F w b (o+4) G1 x.ins (λy=>upd ⟨x.globals,x.locks,x.procs,x.entry,y⟩):=by
 have h':Lens H F w b o G (x.globals,x.locks,x.procs,x.entry,x.ins) (λp:(List ByteArray)×(List ByteArray)×(List ByteArray)×(List Int)×(List DIns)=>upd ⟨p.1,p.2.1,p.2.2.1,p.2.2.2.1,p.2.2.2.2⟩):=⟨h.here,h.sub,λw' G' y' hc hO hs=>h.back w' G' _ hc hO hs⟩;obtain ⟨G0,h'⟩:=h'.snd;obtain ⟨G1,h'⟩:=h'.snd;obtain ⟨G2,h'⟩:=h'.snd;obtain ⟨G3,h'⟩:=h'.snd;exact ⟨_,h'⟩
theorem zjc {w:World} {F:List Nat} {cs:List Value} {x:DCode} (h:rep F w cs x):∃ F0 c0 F1 c1 F2 c2 F3 c3 F4 c4,F=(F0++(F1++(F2++(F3++F4))))∧cs=(c0++(c1++(c2++(c3++c4))))∧rep F0 w c0 x.globals∧rep F1 w c1 x.locks∧rep F2 w c2 x.procs∧rep F3 w c3 x.entry∧rep F4 w c4 x.ins:=by
 obtain ⟨F0,G0,c0,d0,rfl,rfl,h0,h⟩:=h;obtain ⟨F1,G1,c1,d1,rfl,rfl,h1,h⟩:=h;obtain ⟨F2,G2,c2,d2,rfl,rfl,h2,h⟩:=h;obtain ⟨F3,G3,c3,d3,rfl,rfl,h3,h⟩:=h;exact ⟨_,_,_,_,_,_,_,_,_,_,rfl,rfl,h0,h1,h2,h3,h⟩
structure DTouch where
 at_:Int
 global:Int
 write:Bool
 held:Int
theorem DTouch.ext_iff {x y:DTouch}:x=y↔(x.at_=y.at_∧x.global=y.global∧x.write=y.write∧x.held=y.held):=⟨λh=>by rw [h];exact ⟨rfl,rfl,rfl,rfl⟩,λh=>by obtain ⟨h0,h1,h2,h3⟩:=h;cases x;cases y;simp only at h0 h1 h2 h3;simp only [h0,h1,h2,h3]⟩
instance:DecidableEq DTouch:=λx y=>decidable_of_iff (x.at_=y.at_∧x.global=y.global∧x.write=y.write∧x.held=y.held) DTouch.ext_iff.symm
instance:Rep DTouch:=Rep.via λx=>(x.at_,x.global,x.write,x.held)
theorem zbY {w:World} {b o:Nat} {x:DTouch} (h:At w b o x):At w b (o+0) x.at_:=zcQ (α:=Int) (β:=Int×Bool×Int) (p:=(x.at_,x.global,x.write,x.held)) h
theorem zci {w:World} {b o:Nat} {x:DTouch} (h:At w b o x):At w b (o+1) x.global:=zcQ (α:=Int) (β:=Bool×Int) (p:=(x.global,x.write,x.held)) (zbp (α:=Int) (β:=Int×Bool×Int) (p:=(x.at_,x.global,x.write,x.held)) h)
theorem zdB {w:World} {b o:Nat} {x:DTouch} (h:At w b o x):At w b (o+2) x.write:=zcQ (α:=Bool) (β:=Int) (p:=(x.write,x.held)) (zbp (α:=Int) (β:=Bool×Int) (p:=(x.global,x.write,x.held)) (zbp (α:=Int) (β:=Int×Bool×Int) (p:=(x.at_,x.global,x.write,x.held)) h))
theorem zdC {w:World} {b o:Nat} {x:DTouch} (h:At w b o x):At w b (o+3) x.held:=zbp (α:=Bool) (β:=Int) (p:=(x.write,x.held)) (zbp (α:=Int) (β:=Bool×Int) (p:=(x.global,x.write,x.held)) (zbp (α:=Int) (β:=Int×Bool×Int) (p:=(x.at_,x.global,x.write,x.held)) h))
instance:RepZ DTouch:=⟨⟨(RepZ.zv:Int),(RepZ.zv:Int),(RepZ.zv:Bool),(RepZ.zv:Int)⟩,RepZ.zc (Int×Int×Bool×Int),λw=>RepZ.zr (α:=Int×Int×Bool×Int) w⟩
theorem zrB {w:World} {x:DTouch} (h_at_:I64 x.at_) (h_global:I64 x.global)  (h_held:I64 x.held):Mine [] w (.agg #[.int .i64 x.at_,.int .i64 x.global,.bool x.write,.int .i64 x.held]) x:=⟨⟨[.int .i64 x.at_,.int .i64 x.global,.bool x.write,.int .i64 x.held],⟨[],[],[.int .i64 x.at_],[.int .i64 x.global,.bool x.write,.int .i64 x.held],rfl,rfl,⟨rfl,rfl,h_at_⟩,⟨[],[],[.int .i64 x.global],[.bool x.write,.int .i64 x.held],rfl,rfl,⟨rfl,rfl,h_global⟩,⟨[],[],[.bool x.write],[.int .i64 x.held],rfl,rfl,⟨rfl,rfl⟩,⟨rfl,rfl,h_held⟩⟩⟩⟩,rfl⟩,List.nodup_nil,Wr.nil w⟩
instance:Flat DTouch:=⟨λh=>Flat.flat (α:=Int×Int×Bool×Int) h⟩
end Go.Sh
namespace Go.Proofs.YtifonhplnmpgaaaGreat
open Go Go.Sh Go.Proofs
open Rep (rep)
def zl1 (b:UInt8):Bool:=decide ((97:Int)≤(b.toNat:Int)∧(b.toNat:Int)≤122)
def zqj (b:UInt8):Bool:=decide ((48:Int)≤(b.toNat:Int)∧(b.toNat:Int)≤57)
def zil (s:ByteArray):Bool:=decide (s.size≤12)&&(bts s).head?.any zl1&&(bts s).all (λb=>zl1 b || zqj b)
def kw:List ByteArray:=[.mk #[97,110,100],.mk #[99,97,108,108],.mk #[101,108,115,101],.mk #[103,108,111,98,97,108,115],.mk #[105,102],.mk #[108,111,99,107],.mk #[108,111,99,107,115],
 .mk #[110,111,116],.mk #[112,114,111,99],.mk #[115,107,105,112],.mk #[115,112,97,119,110],.mk #[117,110,108,111,99,107],.mk #[119,104,105,108,101]]
def zbM (s:ByteArray):Bool:=zil s&&!decide (s∈kw)
def F253 (a0:Value) (w:World) (R:VW):Prop:=
 rB .geq 5 T0 U0 a0 (Value.int .u8 97) w λx4=>
 BR x4
 (rB .leq 5 T0 U0 a0 (Value.int .u8 122) w λx7=>
 R x7 w)
 (R vF w)
theorem F253_call {a0 w R} (h:F253 a0 w R):cL 253 [a0] w R:=co (g:=(kf [] [] [])) Tryz.func253 h
theorem zku {w:World} {n:Nat}    :
   CALL tp 253 [.int .u8 (n:Int)] w λr w'=>Ext w w'∧(r=.bool (decide ((97:Int)≤(n:Int)∧(n:Int)≤122))):=by
 refine F253_call ?_;unfold F253;refine zb0 ?_;refine br (λc1=>?_) (λc1=>?_)
 · refine zdV ?_
   refine ⟨Ext.refl w,?_⟩;simp [c1]
 refine ⟨Ext.refl w,?_⟩;simp [c1]
def F254 (a0:Value) (w:World) (R:VW):Prop:=
 rB .geq 5 T0 U0 a0 (Value.int .u8 48) w λx4=>
 BR x4
 (rB .leq 5 T0 U0 a0 (Value.int .u8 57) w λx7=>
 R x7 w)
 (R vF w)
theorem F254_call {a0 w R} (h:F254 a0 w R):cL 254 [a0] w R:=co (g:=(kf [] [] [])) Tryz.func254 h
theorem znS {w:World} {n:Nat}    :
   CALL tp 254 [.int .u8 (n:Int)] w λr w'=>Ext w w'∧(r=.bool (decide ((48:Int)≤(n:Int)∧(n:Int)≤57))):=by
 refine F254_call ?_;unfold F254;refine zb0 ?_;refine br (λc1=>?_) (λc1=>?_)
 · refine zdV ?_
   refine ⟨Ext.refl w,?_⟩;simp [c1]
 refine ⟨Ext.refl w,?_⟩;simp [c1]
def F251 (a0:Value) (w:World) (R:VW):Prop:=
 rB .geq 5 T0 U0 a0 (Value.int .u8 97) w λx4=>
 BR x4
 (rB .leq 5 T0 U0 a0 (Value.int .u8 122) w λx7=>
 R x7 w)
 (R vF w)
theorem F251_call {a0 w R} (h:F251 a0 w R):cL 251 [a0] w R:=co (g:=(kf [] [] [])) Tryz.func251 h
theorem zh8 {w:World} {n:Nat}    :
   CALL tp 251 [.int .u8 (n:Int)] w λr w'=>Ext w w'∧(r=.bool (decide ((97:Int)≤(n:Int)∧(n:Int)≤122))):=by
 refine F251_call ?_;unfold F251;refine zb0 ?_;refine br (λc1=>?_) (λc1=>?_)
 · refine zdV ?_
   refine ⟨Ext.refl w,?_⟩;simp [c1]
 refine ⟨Ext.refl w,?_⟩;simp [c1]
def F252 (a0:Value) (w:World) (R:VW):Prop:=
 rB .geq 5 T0 U0 a0 (Value.int .u8 48) w λx4=>
 BR x4
 (rB .leq 5 T0 U0 a0 (Value.int .u8 57) w λx7=>
 R x7 w)
 (R vF w)
theorem F252_call {a0 w R} (h:F252 a0 w R):cL 252 [a0] w R:=co (g:=(kf [] [] [])) Tryz.func252 h
theorem zmE {w:World} {n:Nat}    :
   CALL tp 252 [.int .u8 (n:Int)] w λr w'=>Ext w w'∧(r=.bool (decide ((48:Int)≤(n:Int)∧(n:Int)≤57))):=by
 refine F252_call ?_;unfold F252;refine zb0 ?_;refine br (λc1=>?_) (λc1=>?_)
 · refine zdV ?_
   refine ⟨Ext.refl w,?_⟩;simp [c1]
 refine ⟨Ext.refl w,?_⟩;simp [c1]
theorem zo7 {s:ByteArray} (h:0<s.size):(bts s).head?=some ((bts s)[0]'(by rw [zbQ];exact h)):=by
 rw [List.head?_eq_getElem?,List.getElem?_eq_getElem (by rw [zbQ];exact h)]
theorem zkv {s:ByteArray} (h:s.size=0):zil s=false:=by
 have:bts s=[]:=List.eq_nil_of_length_eq_zero (by rw [zbQ];exact h);simp [zil,this]
theorem zmF {s:ByteArray} (h:12<s.size):zil s=false:=by
 simp [zil,Nat.not_le.2 h]
theorem zmG {s:ByteArray} (h:0<s.size) (c:¬((97:Int)≤(((bts s)[0]'(by rw [zbQ];exact h)).toNat:Int)∧(((bts s)[0]'(by rw [zbQ];exact h)).toNat:Int)≤122)):zil s=false:=by
 have:zl1 ((bts s)[0]'(by rw [zbQ];exact h))=false:=by simp only [zl1,c,decide_false]
 simp [zil,zo7 h,this]
theorem zrC {s:ByteArray} {k:Nat} (h:k<s.size) (c1:¬((97:Int)≤(((bts s)[k]'(by rw [zbQ];exact h)).toNat:Int)∧(((bts s)[k]'(by rw [zbQ];exact h)).toNat:Int)≤122))
   (c2:¬((48:Int)≤(((bts s)[k]'(by rw [zbQ];exact h)).toNat:Int)∧(((bts s)[k]'(by rw [zbQ];exact h)).toNat:Int)≤57)):zil s=false:=by
 have h1:zl1 ((bts s)[k]'(by rw [zbQ];exact h))=false:=by simp only [zl1,c1,decide_false]
 have h2:zqj ((bts s)[k]'(by rw [zbQ];exact h))=false:=by simp only [zqj,c2,decide_false]
 have:(bts s).all (λb=>zl1 b || zqj b)=false:=by
   rw [List.all_eq_false];exact ⟨_,List.getElem_mem (by rw [zbQ];exact h),by simp [h1,h2]⟩
 simp [zil,this]
theorem zg1 {s:ByteArray} {k:Nat} (h:k<s.size) (hi:∀ b∈(bts s).take k,(zl1 b || zqj b)=true) (c:zl1 ((bts s)[k]'(by rw [zbQ];exact h))=true∨zqj ((bts s)[k]'(by rw [zbQ];exact h))=true) :
   ∀ b∈(bts s).take (k+1),(zl1 b || zqj b)=true:=by
 rw [tk (by rw [zbQ];exact h)];intro b hb;rcases List.mem_append.1 hb with hb | hb
 · exact hi b hb
 simp only [List.mem_cons,List.not_mem_nil,or_false] at hb;subst hb;simpa using c
theorem zo8 {s:ByteArray} {k:Nat} (h0:0<s.size) (h1:s.size≤12) (c:(97:Int)≤(((bts s)[0]'(by rw [zbQ];exact h0)).toNat:Int)∧(((bts s)[0]'(by rw [zbQ];exact h0)).toNat:Int)≤122) (hk:s.size≤k)
   (hi:∀ b∈(bts s).take k,(zl1 b || zqj b)=true):zil s=true:=by
 rw [List.take_of_length_le (by rw [zbQ];exact hk)] at hi;have e1:zl1 ((bts s)[0]'(by rw [zbQ];exact h0))=true:=by simp only [zl1,c,and_self,decide_true]
 have e2:(bts s).all (λb=>zl1 b || zqj b)=true:=List.all_eq_true.2 hi;simp [zil,zo7 h0,e1,e2,h1]
def F221 (a0:Value) (w:World) (R:VW):Prop:=
 rN 9 3 a0 w λx5=>
 rQ x5 (iV 0) w λx6=>
 BR x6
 (R vF w)
 (rN 9 3 a0 w λx9=>
 rB .gtr 3 T0 U0 x9 (iV 12) w λx10=>
 BR x10
 (R vF w)
 (rD (Instr.index 9 a0 (iV 0)) w λx14=>
 cL 251 [x14] w λx15 w=>
 rT x15 w λx16=>
 BR x16
 (R vF w)
 (LOOPI [3] [(iV 0)] w λu4 w n4=>
 rN 9 3 a0 w λx20=>
 rC (u4 3) x20 w λx21=>
 BR x21
 (rD (Instr.index 9 a0 (u4 3)) w λx26=>
 cL 251 [x26] w λx27 w=>
 rT x27 w λx28=>
 BR x28
 (rD (Instr.index 9 a0 (u4 3)) w λx32=>
 cL 252 [x32] w λx33 w=>
 rT x33 w λx34=>
 BR x34
 (R vF w)
 (rI (u4 3) w λx23=>
 n4 [x23] w))
 (rI (u4 3) w λx23=>
 n4 [x23] w))
 (R vT w))))
theorem F221_call {a0 w R} (h:F221 a0 w R):cL 221 [a0] w R:=co (g:=(kf [] [(4,68719214604,[3])] [])) Tryz.func221 h
theorem zqk {w:World} {s:ByteArray}    :
   CALL tp 221 [.string s] w λr w'=>Ext w w'∧(r=.bool (zil s)):=by
 refine F221_call ?_;unfold F221;refine zfu u9 ?_;refine zao ?_;refine br (λc1=>?_) (λc1=>?_)
 · refine ⟨Ext.refl w,?_⟩
   rw [zkv (by omega)]
 refine zfu u9 ?_;refine zcK ?_;refine br (λc2=>?_) (λc2=>?_)
 · refine ⟨Ext.refl w,?_⟩
   rw [zmF (by omega)]
 refine zeL (i:=0) u9 (by omega) ?_;refine (zh8 ).mono ?_;rintro _ w1_ ⟨η1,rfl⟩;refine zaq ?_;refine br (λc3=>?_) (λc3=>?_)
 · refine ⟨η1,?_⟩
   rw [zmG (by omega) c3]
 refine zam (s.size) (λk us w'=>us=[.int .i64 (k:Int)]∧Ext w1_ w'∧(∀ b∈(bts s).take k,(zl1 b || zqj b)=true)) (0) (by omega) ⟨by simp,Ext.refl w1_,by simp⟩ ?_;rintro k m4 uu4 w2_ hk4 ⟨hu,η2,hinv⟩;try replace hu:=zbi hu
 try rw [hu]
 try clear hu
 refine zfu u9 ?_;refine zag ?_;refine br (λc4=>?_) (λc4=>?_)
 · refine zeL u9 (by omega) ?_
   refine (zh8 ).mono ?_;rintro _ w3_ ⟨η3,rfl⟩;refine zaq ?_;refine br (λc5=>?_) (λc5=>?_)
   · refine zeL u9 (by omega) ?_
     refine (zmE ).mono ?_;rintro _ w4_ ⟨η4,rfl⟩;refine zaq ?_;refine br (λc6=>?_) (λc6=>?_)
     · refine ⟨(η1.t (η2.t (η3.t η4))),?_⟩
       rw [zrC (by omega) c5 c6]
     refine zas ?_;refine ⟨m4-1,by omega,k+1,by omega,by simp,(η2.t (η3.t η4)),?_⟩;exact zg1 (by omega) hinv (.inr (by simp only [zqj,Decidable.not_not.1 c6,and_self,decide_true]))
   refine zas ?_;refine ⟨m4-1,by omega,k+1,by omega,by simp,(η2.t η3),?_⟩;exact zg1 (by omega) hinv (.inl (by simp only [zl1,Decidable.not_not.1 c5,and_self,decide_true]))
 refine ⟨(η1.t η2),?_⟩;rw [zo8 (by omega) (by omega) (Decidable.not_not.1 c3) (by omega) hinv]
def F173 (a0:Value) (w:World) (R:VW):Prop:=
 rB .eql 9 T0 U0 a0 (Value.string (ByteArray.mk #[97,110,100])) w λx5=>
 BR x5
 (R vF w)
 (rB .eql 9 T0 U0 a0 (Value.string (ByteArray.mk #[99,97,108,108])) w λx6=>
 BR x6
 (R vF w)
 (rB .eql 9 T0 U0 a0 (Value.string (ByteArray.mk #[101,108,115,101])) w λx7=>
 BR x7
 (R vF w)
 (rB .eql 9 T0 U0 a0 (Value.string (ByteArray.mk #[103,108,111,98,97,108,115])) w λx8=>
 BR x8
 (R vF w)
 (rB .eql 9 T0 U0 a0 (Value.string (ByteArray.mk #[105,102])) w λx9=>
 BR x9
 (R vF w)
 (rB .eql 9 T0 U0 a0 (Value.string (ByteArray.mk #[108,111,99,107])) w λx10=>
 BR x10
 (R vF w)
 (rB .eql 9 T0 U0 a0 (Value.string (ByteArray.mk #[108,111,99,107,115])) w λx11=>
 BR x11
 (R vF w)
 (rB .eql 9 T0 U0 a0 (Value.string (ByteArray.mk #[110,111,116])) w λx12=>
 BR x12
 (R vF w)
 (rB .eql 9 T0 U0 a0 (Value.string (ByteArray.mk #[112,114,111,99])) w λx13=>
 BR x13
 (R vF w)
 (rB .eql 9 T0 U0 a0 (Value.string (ByteArray.mk #[115,107,105,112])) w λx14=>
 BR x14
 (R vF w)
 (rB .eql 9 T0 U0 a0 (Value.string (ByteArray.mk #[115,112,97,119,110])) w λx15=>
 BR x15
 (R vF w)
 (rB .eql 9 T0 U0 a0 (Value.string (ByteArray.mk #[117,110,108,111,99,107])) w λx16=>
 BR x16
 (R vF w)
 (rB .eql 9 T0 U0 a0 (Value.string (ByteArray.mk #[119,104,105,108,101])) w λx17=>
 BR x17
 (R vF w)
 (cL 221 [a0] w λx19 w=>
 R x19 w)))))))))))))
theorem F173_call {a0 w R} (h:F173 a0 w R):cL 173 [a0] w R:=co (g:=(kf [] [] [])) Tryz.func173 h
theorem zg2 {w:World} {s:ByteArray}    :
   CALL tp 173 [.string s] w λr w'=>Ext w w'∧(r=.bool (zbM s)):=by
 refine F173_call ?_;unfold F173;refine zbb ?_;refine br (λc1=>?_) (λc1=>?_)
 · refine ⟨Ext.refl w,?_⟩
   have hm:s∈kw:=by simp [kw, *]
   simp [zbM,hm]
 refine zbb ?_;refine br (λc2=>?_) (λc2=>?_)
 · refine ⟨Ext.refl w,?_⟩
   have hm:s∈kw:=by simp [kw, *]
   simp [zbM,hm]
 refine zbb ?_;refine br (λc3=>?_) (λc3=>?_)
 · refine ⟨Ext.refl w,?_⟩
   have hm:s∈kw:=by simp [kw, *]
   simp [zbM,hm]
 refine zbb ?_;refine br (λc4=>?_) (λc4=>?_)
 · refine ⟨Ext.refl w,?_⟩
   have hm:s∈kw:=by simp [kw, *]
   simp [zbM,hm]
 refine zbb ?_;refine br (λc5=>?_) (λc5=>?_)
 · refine ⟨Ext.refl w,?_⟩
   have hm:s∈kw:=by simp [kw, *]
   simp [zbM,hm]
 refine zbb ?_;refine br (λc6=>?_) (λc6=>?_)
 · refine ⟨Ext.refl w,?_⟩
   have hm:s∈kw:=by simp [kw, *]
   simp [zbM,hm]
 refine zbb ?_;refine br (λc7=>?_) (λc7=>?_)
 · refine ⟨Ext.refl w,?_⟩
   have hm:s∈kw:=by simp [kw, *]
   simp [zbM,hm]
 refine zbb ?_;refine br (λc8=>?_) (λc8=>?_)
 · refine ⟨Ext.refl w,?_⟩
   have hm:s∈kw:=by simp [kw, *]
   simp [zbM,hm]
 refine zbb ?_;refine br (λc9=>?_) (λc9=>?_)
 · refine ⟨Ext.refl w,?_⟩
   have hm:s∈kw:=by simp [kw, *]
   simp [zbM,hm]
 refine zbb ?_;refine br (λc10=>?_) (λc10=>?_)
 · refine ⟨Ext.refl w,?_⟩
   have hm:s∈kw:=by simp [kw, *]
   simp [zbM,hm]
 refine zbb ?_;refine br (λc11=>?_) (λc11=>?_)
 · refine ⟨Ext.refl w,?_⟩
   have hm:s∈kw:=by simp [kw, *]
   simp [zbM,hm]
 refine zbb ?_;refine br (λc12=>?_) (λc12=>?_)
 · refine ⟨Ext.refl w,?_⟩
   have hm:s∈kw:=by simp [kw, *]
   simp [zbM,hm]
 refine zbb ?_;refine br (λc13=>?_) (λc13=>?_)
 · refine ⟨Ext.refl w,?_⟩
   have hm:s∈kw:=by simp [kw, *]
   simp [zbM,hm]
 refine (zqk ).mono ?_;rintro _ w1_ ⟨η1,rfl⟩;refine ⟨η1,?_⟩;have hm:s∉kw:=by simp [kw, *]
 simp [zbM,hm]
def F222 (a0:Value) (w:World) (R:VW):Prop:=
 rN 9 3 a0 w λx5=>
 rB .lss 3 T0 U0 x5 (iV 1) w λx6=>
 BR x6
 (R vF w)
 (rN 9 3 a0 w λx9=>
 rB .gtr 3 T0 U0 x9 (iV 12) w λx10=>
 BR x10
 (R vF w)
 (rD (Instr.index 9 a0 (iV 0)) w λx14=>
 cL 253 [x14] w λx15 w=>
 rT x15 w λx16=>
 BR x16
 (R vF w)
 (LOOPI [3] [(iV 0)] w λu4 w n4=>
 rN 9 3 a0 w λx20=>
 rC (u4 3) x20 w λx21=>
 BR x21
 (rD (Instr.index 9 a0 (u4 3)) w λx26=>
 cL 253 [x26] w λx27 w=>
 rT x27 w λx28=>
 BR x28
 (rD (Instr.index 9 a0 (u4 3)) w λx32=>
 cL 254 [x32] w λx33 w=>
 rT x33 w λx34=>
 BR x34
 (R vF w)
 (rI (u4 3) w λx23=>
 n4 [x23] w))
 (rI (u4 3) w λx23=>
 n4 [x23] w))
 (rB .eql 9 T0 U0 a0 (Value.string (ByteArray.mk #[97,110,100])) w λx38=>
 BR x38
 (R vF w)
 (rB .eql 9 T0 U0 a0 (Value.string (ByteArray.mk #[99,97,108,108])) w λx39=>
 BR x39
 (R vF w)
 (rB .eql 9 T0 U0 a0 (Value.string (ByteArray.mk #[101,108,115,101])) w λx40=>
 BR x40
 (R vF w)
 (rB .eql 9 T0 U0 a0 (Value.string (ByteArray.mk #[103,108,111,98,97,108,115])) w λx41=>
 BR x41
 (R vF w)
 (rB .eql 9 T0 U0 a0 (Value.string (ByteArray.mk #[105,102])) w λx42=>
 BR x42
 (R vF w)
 (rB .eql 9 T0 U0 a0 (Value.string (ByteArray.mk #[108,111,99,107])) w λx43=>
 BR x43
 (R vF w)
 (rB .eql 9 T0 U0 a0 (Value.string (ByteArray.mk #[108,111,99,107,115])) w λx44=>
 BR x44
 (R vF w)
 (rB .eql 9 T0 U0 a0 (Value.string (ByteArray.mk #[110,111,116])) w λx45=>
 BR x45
 (R vF w)
 (rB .eql 9 T0 U0 a0 (Value.string (ByteArray.mk #[112,114,111,99])) w λx46=>
 BR x46
 (R vF w)
 (rB .eql 9 T0 U0 a0 (Value.string (ByteArray.mk #[115,107,105,112])) w λx47=>
 BR x47
 (R vF w)
 (rB .eql 9 T0 U0 a0 (Value.string (ByteArray.mk #[115,112,97,119,110])) w λx48=>
 BR x48
 (R vF w)
 (rB .eql 9 T0 U0 a0 (Value.string (ByteArray.mk #[117,110,108,111,99,107])) w λx49=>
 BR x49
 (R vF w)
 (rB .eql 9 T0 U0 a0 (Value.string (ByteArray.mk #[119,104,105,108,101])) w λx50=>
 BR x50
 (R vF w)
 (R vT w)))))))))))))))))
theorem F222_call {a0 w R} (h:F222 a0 w R):cL 222 [a0] w R:=co (g:=(kf [] [(4,68719214604,[3])] [])) Tryz.func222 h
theorem zg3 {w:World} {s:ByteArray}    :
   CALL tp 222 [.string s] w λr w'=>Ext w w'∧(r=.bool (zbM s)):=by
 refine F222_call ?_;unfold F222;refine zfu u9 ?_;refine zag ?_;refine br (λc1=>?_) (λc1=>?_)
 · refine ⟨Ext.refl w,?_⟩
   simp [zbM,zkv (s:=s) (by omega)]
 refine zfu u9 ?_;refine zcK ?_;refine br (λc2=>?_) (λc2=>?_)
 · refine ⟨Ext.refl w,?_⟩
   simp [zbM,zmF (s:=s) (by omega)]
 refine zeL (i:=0) u9 (by omega) ?_;refine (zku ).mono ?_;rintro _ w1_ ⟨η1,rfl⟩;refine zaq ?_;refine br (λc3=>?_) (λc3=>?_)
 · refine ⟨η1,?_⟩
   simp [zbM,zmG (s:=s) (by omega) c3]
 refine zam (s.size) (λk us w'=>us=[.int .i64 (k:Int)]∧Ext w1_ w'∧(∀ b∈(bts s).take k,(zl1 b || zqj b)=true)) (0) (by omega) ⟨by simp,Ext.refl w1_,by simp⟩ ?_;rintro k m4 uu4 w2_ hk4 ⟨hu,η2,hinv⟩;try replace hu:=zbi hu
 try rw [hu]
 try clear hu
 refine zfu u9 ?_;refine zag ?_;refine br (λc4=>?_) (λc4=>?_)
 · refine zeL u9 (by omega) ?_
   refine (zku ).mono ?_;rintro _ w3_ ⟨η3,rfl⟩;refine zaq ?_;refine br (λc5=>?_) (λc5=>?_)
   · refine zeL u9 (by omega) ?_
     refine (znS ).mono ?_;rintro _ w4_ ⟨η4,rfl⟩;refine zaq ?_;refine br (λc6=>?_) (λc6=>?_)
     · refine ⟨(η1.t (η2.t (η3.t η4))),?_⟩
       simp [zbM,zrC (s:=s) (by omega) c5 c6]
     refine zas ?_;refine ⟨m4-1,by omega,k+1,by omega,by simp,(η2.t (η3.t η4)),?_⟩;exact zg1 (by omega) hinv (.inr (by simp only [zqj,Decidable.not_not.1 c6,and_self,decide_true]))
   refine zas ?_;refine ⟨m4-1,by omega,k+1,by omega,by simp,(η2.t η3),?_⟩;exact zg1 (by omega) hinv (.inl (by simp only [zl1,Decidable.not_not.1 c5,and_self,decide_true]))
 refine zbb ?_;refine br (λc7=>?_) (λc7=>?_)
 · refine ⟨(η1.t η2),?_⟩
   have hm:s∈kw:=by simp only [kw,List.mem_cons, *,true_or,or_true]
   simp [zbM,hm]
 refine zbb ?_;refine br (λc8=>?_) (λc8=>?_)
 · refine ⟨(η1.t η2),?_⟩
   have hm:s∈kw:=by simp only [kw,List.mem_cons, *,true_or,or_true]
   simp [zbM,hm]
 refine zbb ?_;refine br (λc9=>?_) (λc9=>?_)
 · refine ⟨(η1.t η2),?_⟩
   have hm:s∈kw:=by simp only [kw,List.mem_cons, *,true_or,or_true]
   simp [zbM,hm]
 refine zbb ?_;refine br (λc10=>?_) (λc10=>?_)
 · refine ⟨(η1.t η2),?_⟩
   have hm:s∈kw:=by simp only [kw,List.mem_cons, *,true_or,or_true]
   simp [zbM,hm]
 refine zbb ?_;refine br (λc11=>?_) (λc11=>?_)
 · refine ⟨(η1.t η2),?_⟩
   have hm:s∈kw:=by simp only [kw,List.mem_cons, *,true_or,or_true]
   simp [zbM,hm]
 refine zbb ?_;refine br (λc12=>?_) (λc12=>?_)
 · refine ⟨(η1.t η2),?_⟩
   have hm:s∈kw:=by simp only [kw,List.mem_cons, *,true_or,or_true]
   simp [zbM,hm]
 refine zbb ?_;refine br (λc13=>?_) (λc13=>?_)
 · refine ⟨(η1.t η2),?_⟩
   have hm:s∈kw:=by simp only [kw,List.mem_cons, *,true_or,or_true]
   simp [zbM,hm]
 refine zbb ?_;refine br (λc14=>?_) (λc14=>?_)
 · refine ⟨(η1.t η2),?_⟩
   have hm:s∈kw:=by simp only [kw,List.mem_cons, *,true_or,or_true]
   simp [zbM,hm]
 refine zbb ?_;refine br (λc15=>?_) (λc15=>?_)
 · refine ⟨(η1.t η2),?_⟩
   have hm:s∈kw:=by simp only [kw,List.mem_cons, *,true_or,or_true]
   simp [zbM,hm]
 refine zbb ?_;refine br (λc16=>?_) (λc16=>?_)
 · refine ⟨(η1.t η2),?_⟩
   have hm:s∈kw:=by simp only [kw,List.mem_cons, *,true_or,or_true]
   simp [zbM,hm]
 refine zbb ?_;refine br (λc17=>?_) (λc17=>?_)
 · refine ⟨(η1.t η2),?_⟩
   have hm:s∈kw:=by simp only [kw,List.mem_cons, *,true_or,or_true]
   simp [zbM,hm]
 refine zbb ?_;refine br (λc18=>?_) (λc18=>?_)
 · refine ⟨(η1.t η2),?_⟩
   have hm:s∈kw:=by simp only [kw,List.mem_cons, *,true_or,or_true]
   simp [zbM,hm]
 refine zbb ?_;refine br (λc19=>?_) (λc19=>?_)
 · refine ⟨(η1.t η2),?_⟩
   have hm:s∈kw:=by simp only [kw,List.mem_cons, *,true_or,or_true]
   simp [zbM,hm]
 refine ⟨(η1.t η2),?_⟩;have hm:s∉kw:=by simp only [kw,List.mem_cons,List.not_mem_nil,or_false, *,not_false_eq_true]
 simp [zbM,hm,zo8 (by omega) (by omega) (Decidable.not_not.1 c3) (by omega) hinv]
def zbP:Nat→DTerm→Bool
 | n,.mk k num s ks=>
   if k=1 then decide (0≤num∧num≤1000000000)&&decide (s=ByteArray.mk #[])&&decide ((ks.length:Int)=0)
   else if k=2 then decide (num=0)&&zbM s&&decide ((ks.length:Int)=0)
   else decide (3≤k∧k≤9)&&decide (num=0)&&decide (s=ByteArray.mk #[])&&decide ((ks.length:Int)=if k=8 then 1 else 2) &&
     (match n with | 0=>false | m+1=>ks.all (zbP m))
theorem zeu {n:Nat} {t:DTerm} (h:t.kind=1):zbP n t=(decide (0≤t.num∧t.num≤1000000000)&&decide (t.name=ByteArray.mk #[])&&decide ((t.kids.length:Int)=0)):=by
 obtain ⟨k,num,s,ks⟩:=t;have:k=1:=h;unfold zbP;rw [if_pos this];rfl
theorem zfV {n:Nat} {t:DTerm} (h:t.kind=2):zbP n t=(decide (t.num=0)&&zbM t.name&&decide ((t.kids.length:Int)=0)):=by
 obtain ⟨k,num,s,ks⟩:=t;have:k=2:=h;unfold zbP;rw [if_neg (by omega),if_pos this];rfl
theorem zbw {n:Nat} {t:DTerm} (h1:¬t.kind=1) (h2:¬t.kind=2):zbP n t =
   (decide (3≤t.kind∧t.kind≤9)&&decide (t.num=0)&&decide (t.name=ByteArray.mk #[])&&decide ((t.kids.length:Int)=if t.kind=8 then 1 else 2)&&(match n with | 0=>false | m+1=>t.kids.all (zbP m))):=by
 obtain ⟨k,num,s,ks⟩:=t;have h1:¬k=1:=h1;have h2:¬k=2:=h2;unfold zbP;rw [if_neg h1,if_neg h2];rfl
theorem ziu {α:Type} {p:α→Bool} {l:List α} {k:Nat} (hk:k<l.length) (h:(l.take k).all p=true) (hp:p l[k]=true):(l.take (k+1)).all p=true:=by
 rw [tk hk,List.all_append,h];simp [hp]
theorem zg4 {α:Type} {p:α→Bool} {l:List α} {k:Nat} (hk:k<l.length) (hp:p l[k]=false):l.all p=false:=by
 rw [List.all_eq_false];exact ⟨_,List.getElem_mem hk,by simp [hp]⟩
theorem ziv {α:Type} {p:α→Bool} {l:List α} {k:Nat} (hk:l.length≤k) (h:(l.take k).all p=true):l.all p=true:=by
 rwa [List.take_of_length_le hk] at h
def zwO (f:Nat) (n:Nat):Prop:=∀ {w W:World} {v:Value} {t:DTerm} {d:Int},Is W v t→Ext W w→d=(n:Int) →
 CALL tp f [v,.int .i64 d] w λr w'=>Ext w w'∧r=.bool (zbP n t)
def F223 (a0 a1:Value) (w:World) (R:VW):Prop:=
 oX 109 a0 w λx2 w=>
 JOIN [] (λJ18=>
 rF 109 x2 0 w λx7=>
 rL 3 x7 w λx8=>
 rQ x8 (iV 1) w λx10=>
 BR x10
 (rF 109 x2 1 w λx11=>
 rL 3 x11 w λx12=>
 rB .geq 3 T0 U0 x12 (iV 0) w λx13=>
 BR x13
 (rF 109 x2 1 w λx15=>
 rL 3 x15 w λx16=>
 rB .leq 3 T0 U0 x16 (iV 1000000000) w λx17=>
 BR x17
 (rF 109 x2 2 w λx20=>
 rL 9 x20 w λx21=>
 rB .eql 9 T0 U0 x21 (Value.string (ByteArray.mk #[])) w λx22=>
 BR x22
 (rF 109 x2 3 w λx25=>
 rL 107 x25 w λx26=>
 rN 107 3 x26 w λx27=>
 rQ x27 (iV 0) w λx28=>
 R x28 w)
 (R vF w))
 (R vF w))
 (R vF w))
 (rQ x8 (iV 2) w λx31=>
 BR x31
 (rF 109 x2 1 w λx32=>
 rL 3 x32 w λx33=>
 rQ x33 (iV 0) w λx34=>
 BR x34
 (rF 109 x2 2 w λx36=>
 rL 9 x36 w λx37=>
 cL 222 [x37] w λx38 w=>
 BR x38
 (rF 109 x2 3 w λx41=>
 rL 107 x41 w λx42=>
 rN 107 3 x42 w λx43=>
 rQ x43 (iV 0) w λx44=>
 R x44 w)
 (R vF w))
 (R vF w))
 (rQ x8 (iV 3) w λx47=>
 BR x47
 (rF 109 x2 3 w λx53=>
 rL 107 x53 w λx54=>
 rN 107 3 x54 w λx55=>
 rB .neq 3 T0 U0 x55 (iV 2) w λx56=>
 BR x56
 (R vF w)
 (J18 [] w))
 (rQ x8 (iV 4) w λx48=>
 BR x48
 (rF 109 x2 3 w λx53=>
 rL 107 x53 w λx54=>
 rN 107 3 x54 w λx55=>
 rB .neq 3 T0 U0 x55 (iV 2) w λx56=>
 BR x56
 (R vF w)
 (J18 [] w))
 (rQ x8 (iV 5) w λx49=>
 BR x49
 (rF 109 x2 3 w λx53=>
 rL 107 x53 w λx54=>
 rN 107 3 x54 w λx55=>
 rB .neq 3 T0 U0 x55 (iV 2) w λx56=>
 BR x56
 (R vF w)
 (J18 [] w))
 (rQ x8 (iV 6) w λx50=>
 BR x50
 (rF 109 x2 3 w λx53=>
 rL 107 x53 w λx54=>
 rN 107 3 x54 w λx55=>
 rB .neq 3 T0 U0 x55 (iV 2) w λx56=>
 BR x56
 (R vF w)
 (J18 [] w))
 (rQ x8 (iV 7) w λx51=>
 BR x51
 (rF 109 x2 3 w λx53=>
 rL 107 x53 w λx54=>
 rN 107 3 x54 w λx55=>
 rB .neq 3 T0 U0 x55 (iV 2) w λx56=>
 BR x56
 (R vF w)
 (J18 [] w))
 (rQ x8 (iV 9) w λx52=>
 BR x52
 (rF 109 x2 3 w λx53=>
 rL 107 x53 w λx54=>
 rN 107 3 x54 w λx55=>
 rB .neq 3 T0 U0 x55 (iV 2) w λx56=>
 BR x56
 (R vF w)
 (J18 [] w))
 (rQ x8 (iV 8) w λx58=>
 BR x58
 (rF 109 x2 3 w λx59=>
 rL 107 x59 w λx60=>
 rN 107 3 x60 w λx61=>
 rB .neq 3 T0 U0 x61 (iV 1) w λx62=>
 BR x62
 (R vF w)
 (J18 [] w))
 (R vF w)))))))))) (λu18 w=>
 rF 109 x2 1 w λx63=>
 rL 3 x63 w λx64=>
 rB .neq 3 T0 U0 x64 (iV 0) w λx65=>
 BR x65
 (R vF w)
 (rF 109 x2 2 w λx67=>
 rL 9 x67 w λx68=>
 rB .neq 9 T0 U0 x68 (Value.string (ByteArray.mk #[])) w λx69=>
 BR x69
 (R vF w)
 (rQ a1 (iV 0) w λx73=>
 BR x73
 (R vF w)
 (rF 109 x2 3 w λx75=>
 rL 107 x75 w λx76=>
 rN 107 3 x76 w λx77=>
 LOOPI [78] [(iV 0)] w λu21 w n21=>
 rC (u21 78) x77 w λx79=>
 BR x79
 (rX 107 x76 (u21 78) w λx80=>
 rL 109 x80 w λx81=>
 oP (aL 109) w λx6 w=>
 oS 109 x6 x81 w λw=>
 rL 109 x6 w λx82=>
 rB .sub 3 T0 U0 a1 (iV 1) w λx84=>
 cL 223 [x82,x84] w λx85 w=>
 rT x85 w λx86=>
 BR x86
 (R vF w)
 (rI (u21 78) w λx87=>
 n21 [x87] w))
 (R vT w)))))
theorem F223_call {a0 a1 w R} (h:F223 a0 a1 w R):cL 223 [a0,a1] w R:=co (g:=(kf [(18,9223372036854775696,[])] [(21,309182778366441411431104592,[78])] [])) Tryz.func223 h
theorem zlh {w:World} {v0:Value} {W0:World} {t:DTerm} {d:Int} {n:Nat} (h0:Is W0 v0 t) (e0:Ext W0 w) (hd:d=(n:Int)) (ih:∀ m,m+1=n→zwO 223 m) (hn:n≤6) :
   CALL tp 223 [v0,.int .i64 d] w λr w'=>Ext w w'∧(r=.bool (zbP n t)):=by
 refine F223_call ?_;unfold F223;refine zar zbB rfl h0 e0 λw1_ η1 hA2 hV2=>?_;refine JOIN.mk (λus w'=>us=[]∧Ext w1_ w'∧(3≤t.kind∧t.kind≤9∧(t.kids.length:Int)=(if t.kind=8 then 1 else 2))) ?_ ?_
 · refine zab zdj ?_
   refine zad ty3 (zbU hA2) (Ext.refl w1_) λhI8=>?_;refine zao ?_;refine br (λc1=>?_) (λc1=>?_)
   · refine zab zcX ?_
     refine zad ty3 (zbK hA2) (Ext.refl w1_) λhI12=>?_;refine zb0 ?_;refine br (λc2=>?_) (λc2=>?_)
     · refine zab zcX ?_
       refine zad ty3 (zbK hA2) (Ext.refl w1_) λhI16=>?_;refine zdV ?_;refine br (λc3=>?_) (λc3=>?_)
       · refine zab zcA ?_
         refine zaS ty9 (zbl hA2) (Ext.refl w1_) λhS21=>?_;refine zbb ?_;refine br (λc4=>?_) (λc4=>?_)
         · refine zab zbs ?_
           refine zaa zdw (zaU hA2) (Ext.refl w1_) λv26 h26=>?_;have hln27:=zah h26;refine zae zfp h26 ?_;refine zao ?_;refine ⟨η1,?_⟩;rw [zeu c1];simp only [c2,c3,c4,and_self,decide_true,Bool.true_and]
         refine ⟨η1,?_⟩;rw [zeu c1];simp only [c4,decide_false,Bool.and_false,Bool.false_and]
       refine ⟨η1,?_⟩;rw [zeu c1];simp only [c3,and_false,decide_false,Bool.false_and]
     refine ⟨η1,?_⟩;rw [zeu c1];simp only [c2,false_and,decide_false,Bool.false_and]
   refine zao ?_;refine br (λc5=>?_) (λc5=>?_)
   · refine zab zcX ?_
     refine zad ty3 (zbK hA2) (Ext.refl w1_) λhI33=>?_;refine zao ?_;refine br (λc6=>?_) (λc6=>?_)
     · refine zab zcA ?_
       refine zaS ty9 (zbl hA2) (Ext.refl w1_) λhS37=>?_;refine (zg3 ).mono ?_;rintro _ w3_ ⟨η3,rfl⟩;refine zbz (λc7=>?_) (λc7=>?_)
       · refine zab zbs ?_
         refine zaa zdw (zaU hA2) η3 λv42 h42=>?_;have hln43:=zah h42;refine zae zfp h42 ?_;refine zao ?_;refine ⟨(η1.t η3),?_⟩;rw [zfV c5];simp only [c6,c7,decide_true,Bool.true_and]
       refine ⟨(η1.t η3),?_⟩;rw [zfV c5];simp only [c6,c7,decide_true,Bool.true_and,Bool.false_and]
     refine ⟨η1,?_⟩;rw [zfV c5];simp only [c6,decide_false,Bool.false_and]
   refine zao ?_;refine br (λc8=>?_) (λc8=>?_)
   · refine zab zbs ?_
     refine zaa zdw (zaU hA2) (Ext.refl w1_) λv54 h54=>?_;have hln55:=zah h54;refine zae zfp h54 ?_;refine zaB ?_;refine br (λc9=>?_) (λc9=>?_)
     · refine ⟨η1,?_⟩
       rw [zbw c1 c5];simp [show ¬t.kind=8 by omega,show ¬(t.kids.length:Int)=2 from c9]
     refine ⟨by simp,Ext.refl w1_,?_⟩;split<;>omega
   refine zao ?_;refine br (λc10=>?_) (λc10=>?_)
   · refine zab zbs ?_
     refine zaa zdw (zaU hA2) (Ext.refl w1_) λv54 h54=>?_;have hln55:=zah h54;refine zae zfp h54 ?_;refine zaB ?_;refine br (λc11=>?_) (λc11=>?_)
     · refine ⟨η1,?_⟩
       rw [zbw c1 c5];simp [show ¬t.kind=8 by omega,show ¬(t.kids.length:Int)=2 from c11]
     refine ⟨by simp,Ext.refl w1_,?_⟩;split<;>omega
   refine zao ?_;refine br (λc12=>?_) (λc12=>?_)
   · refine zab zbs ?_
     refine zaa zdw (zaU hA2) (Ext.refl w1_) λv54 h54=>?_;have hln55:=zah h54;refine zae zfp h54 ?_;refine zaB ?_;refine br (λc13=>?_) (λc13=>?_)
     · refine ⟨η1,?_⟩
       rw [zbw c1 c5];simp [show ¬t.kind=8 by omega,show ¬(t.kids.length:Int)=2 from c13]
     refine ⟨by simp,Ext.refl w1_,?_⟩;split<;>omega
   refine zao ?_;refine br (λc14=>?_) (λc14=>?_)
   · refine zab zbs ?_
     refine zaa zdw (zaU hA2) (Ext.refl w1_) λv54 h54=>?_;have hln55:=zah h54;refine zae zfp h54 ?_;refine zaB ?_;refine br (λc15=>?_) (λc15=>?_)
     · refine ⟨η1,?_⟩
       rw [zbw c1 c5];simp [show ¬t.kind=8 by omega,show ¬(t.kids.length:Int)=2 from c15]
     refine ⟨by simp,Ext.refl w1_,?_⟩;split<;>omega
   refine zao ?_;refine br (λc16=>?_) (λc16=>?_)
   · refine zab zbs ?_
     refine zaa zdw (zaU hA2) (Ext.refl w1_) λv54 h54=>?_;have hln55:=zah h54;refine zae zfp h54 ?_;refine zaB ?_;refine br (λc17=>?_) (λc17=>?_)
     · refine ⟨η1,?_⟩
       rw [zbw c1 c5];simp [show ¬t.kind=8 by omega,show ¬(t.kids.length:Int)=2 from c17]
     refine ⟨by simp,Ext.refl w1_,?_⟩;split<;>omega
   refine zao ?_;refine br (λc18=>?_) (λc18=>?_)
   · refine zab zbs ?_
     refine zaa zdw (zaU hA2) (Ext.refl w1_) λv54 h54=>?_;have hln55:=zah h54;refine zae zfp h54 ?_;refine zaB ?_;refine br (λc19=>?_) (λc19=>?_)
     · refine ⟨η1,?_⟩
       rw [zbw c1 c5];simp [show ¬t.kind=8 by omega,show ¬(t.kids.length:Int)=2 from c19]
     refine ⟨by simp,Ext.refl w1_,?_⟩;split<;>omega
   refine zao ?_;refine br (λc20=>?_) (λc20=>?_)
   · refine zab zbs ?_
     refine zaa zdw (zaU hA2) (Ext.refl w1_) λv60 h60=>?_;have hln61:=zah h60;refine zae zfp h60 ?_;refine zaB ?_;refine br (λc21=>?_) (λc21=>?_)
     · refine ⟨η1,?_⟩
       rw [zbw c1 c5];simp [c20,show ¬(t.kids.length:Int)=1 from c21]
     refine ⟨by simp,Ext.refl w1_,?_⟩;split<;>omega
   refine ⟨η1,?_⟩;rw [zbw c1 c5];simp [show ¬(3≤t.kind∧t.kind≤9) by omega]
 rintro uj18 w2_ ⟨hu,η3,hk1,hk2,hk3⟩;try replace hu:=zbi hu
 clear hu;refine zab zcX ?_;refine zad ty3 (zbK hA2) η3 λhI64=>?_;refine zaB ?_;refine br (λc22=>?_) (λc22=>?_)
 · refine ⟨(η1.t η3),?_⟩
   rw [zbw (by omega) (by omega)];simp [c22]
 refine zab zcA ?_;refine zaS ty9 (zbl hA2) η3 λhS68=>?_;refine ziL ?_;refine br (λc23=>?_) (λc23=>?_)
 · refine ⟨(η1.t η3),?_⟩
   rw [zbw (by omega) (by omega)];simp [c23]
 refine zao ?_;refine br (λc24=>?_) (λc24=>?_)
 · refine ⟨(η1.t η3),?_⟩
   rw [zbw (by omega) (by omega)];simp [show n=0 by omega]
 refine zab zbs ?_;refine zaa zdw (zaU hA2) η3 λv76 h76=>?_;have hln77:=zah h76;refine zae zfp h76 ?_;refine zam (t.kids.length) (λk us w'=>us=[.int .i64 (k:Int)]∧Ext w2_ w'∧((t.kids.take k).all (zbP (n-1))=true)) (0) (by omega) ⟨by simp,Ext.refl w2_,by simp⟩ ?_;rintro k m21 uu21 w4_ hk21 ⟨hu,η4,hinv⟩;try replace hu:=zbi hu
 try rw [hu]
 try clear hu
 refine zag ?_;refine br (λc25=>?_) (λc25=>?_)
 · refine zac zfp zbB h76 (by omega) λb80 o80 h80=>?_
   refine zaa zbB h80 (η3.t η4) λv81 h81=>?_;refine zb7 zrg rfl zbB rfl h81 (η3.t η4) λw5_ η5 hA6 hV6=>?_;refine zaR hV6 (Ext.refl w5_) ?_;refine zbd (by unfold I64;omega) ?_;refine (ih (n-1) (by omega) h81 (η3.t (η4.t η5)) (by omega)).mono ?_;rintro _ w6_ ⟨η6,rfl⟩;refine zaX ?_;refine zbz (λc26=>?_) (λc26=>?_)
   · refine ⟨(η1.t (η3.t (η4.t (η5.t η6)))),?_⟩
     rw [zbw (by omega) (by omega)];obtain ⟨m,rfl⟩:∃ m,n=m+1:=⟨n-1,by omega⟩;rw [Bool.not_eq_true',Nat.add_sub_cancel] at c26;simp only [zg4 (by omega) c26,Bool.and_false]
   have hln:=zah h76;refine zas ?_;refine ⟨m21-1,by omega,k+1,by omega,by simp,(η4.t (η5.t η6)),?_⟩;exact ziu (by omega) hinv (by simpa using c26)
 refine ⟨(η1.t (η3.t η4)),?_⟩;rw [zbw (by omega) (by omega)];obtain ⟨m,rfl⟩:∃ m,n=m+1:=⟨n-1,by omega⟩;rw [Nat.add_sub_cancel] at hinv;simp only [show 3≤t.kind∧t.kind≤9 from ⟨hk1,hk2⟩,Decidable.not_not.1 c22,Decidable.not_not.1 c23,hk3,ziv (by omega) hinv,and_self,decide_true,Bool.and_self]
theorem zjd:∀ (n:Nat),n≤6→zwO 223 n
 | n,hn=>by intro h e hd;exact zlh h e hd (λm hm=>zjd m (by omega)) hn
def F184 (a0:Value) (w:World) (R:VW):Prop:=
 oX 109 a0 w λx1 w=>
 rL 109 x1 w λx3=>
 cL 223 [x3,(iV 6)] w λx4 w=>
 R x4 w
theorem F184_call {a0 w R} (h:F184 a0 w R):cL 184 [a0] w R:=co (g:=(kf [] [] [])) Tryz.func184 h
theorem zfa {w:World} {v0:Value} {W0:World} {t:DTerm}  (h0:Is W0 v0 t) (e0:Ext W0 w)  :
   CALL tp 184 [v0] w λr w'=>Ext w w'∧(r=.bool (zbP 6 t)):=by
 refine F184_call ?_;unfold F184;refine zar zbB rfl h0 e0 λw1_ η1 hA1 hV1=>?_;refine zaR hV1 (Ext.refl w1_) ?_;refine ((zjd 6 (by omega)) h0 (e0.t η1) rfl).mono ?_;rintro _ w2_ ⟨η2,rfl⟩;refine ⟨(η1.t η2),?_⟩;rfl
def F174 (a0 a1:Value) (w:World) (R:VW):Prop:=
 oX 109 a0 w λx2 w=>
 rF 109 x2 0 w λx7=>
 rL 3 x7 w λx8=>
 rQ x8 (iV 1) w λx10=>
 BR x10
 (rF 109 x2 1 w λx11=>
 rL 3 x11 w λx12=>
 cL 125 [x12,(iV 0),(iV 1000000000)] w λx13 w=>
 BR x13
 (rF 109 x2 2 w λx15=>
 rL 9 x15 w λx16=>
 rB .eql 9 T0 U0 x16 (Value.string (ByteArray.mk #[])) w λx17=>
 BR x17
 (rF 109 x2 3 w λx20=>
 rL 107 x20 w λx21=>
 rN 107 3 x21 w λx22=>
 rQ x22 (iV 0) w λx23=>
 R x23 w)
 (R vF w))
 (R vF w))
 (rQ x8 (iV 2) w λx26=>
 BR x26
 (rF 109 x2 1 w λx27=>
 rL 3 x27 w λx28=>
 rQ x28 (iV 0) w λx29=>
 BR x29
 (rF 109 x2 2 w λx31=>
 rL 9 x31 w λx32=>
 cL 173 [x32] w λx33 w=>
 BR x33
 (rF 109 x2 3 w λx36=>
 rL 107 x36 w λx37=>
 rN 107 3 x37 w λx38=>
 rQ x38 (iV 0) w λx39=>
 R x39 w)
 (R vF w))
 (R vF w))
 (JOIN [5] (λJ9=>
 rF 109 x2 0 w λx41=>
 rL 3 x41 w λx42=>
 rQ x42 (iV 8) w λx43=>
 BR x43
 (J9 [(iV 1)] w)
 (J9 [(iV 2)] w)) (λu9 w=>
 rF 109 x2 0 w λx44=>
 rL 3 x44 w λx45=>
 cL 125 [x45,(iV 3),(iV 9)] w λx46 w=>
 rT x46 w λx47=>
 BR x47
 (R vF w)
 (rF 109 x2 1 w λx49=>
 rL 3 x49 w λx50=>
 rB .neq 3 T0 U0 x50 (iV 0) w λx51=>
 BR x51
 (R vF w)
 (rF 109 x2 2 w λx54=>
 rL 9 x54 w λx55=>
 rB .neq 9 T0 U0 x55 (Value.string (ByteArray.mk #[])) w λx56=>
 BR x56
 (R vF w)
 (rF 109 x2 3 w λx59=>
 rL 107 x59 w λx60=>
 rN 107 3 x60 w λx61=>
 rB .neq 3 T0 T0 x61 (u9 5) w λx63=>
 BR x63
 (R vF w)
 (rQ a1 (iV 0) w λx67=>
 BR x67
 (R vF w)
 (LOOPI [6] [(iV 0)] w λu12 w n12=>
 rF 109 x2 3 w λx70=>
 rL 107 x70 w λx71=>
 rN 107 3 x71 w λx72=>
 rC (u12 6) x72 w λx73=>
 BR x73
 (rF 109 x2 3 w λx76=>
 rL 107 x76 w λx77=>
 rX 107 x77 (u12 6) w λx79=>
 rL 109 x79 w λx80=>
 rB .sub 3 T0 U0 a1 (iV 1) w λx82=>
 cL 174 [x80,x82] w λx83 w=>
 rT x83 w λx84=>
 BR x84
 (R vF w)
 (rI (u12 6) w λx75=>
 n12 [x75] w))
 (R vT w)))))))))
theorem F174_call {a0 a1 w R} (h:F174 a0 a1 w R):cL 174 [a0,a1] w R:=co (g:=(kf [(9,15393162788896,[5])] [(12,38685035931857774884946000,[6])] [])) Tryz.func174 h
theorem zli {w:World} {v0:Value} {W0:World} {t:DTerm} {d:Int} {n:Nat} (h0:Is W0 v0 t) (e0:Ext W0 w) (hd:d=(n:Int)) (ih:∀ m,m+1=n→zwO 174 m) (hn:n≤6) :
   CALL tp 174 [v0,.int .i64 d] w λr w'=>Ext w w'∧(r=.bool (zbP n t)):=by
 refine F174_call ?_;unfold F174;refine zar zbB rfl h0 e0 λw1_ η1 hA2 hV2=>?_;refine zab zdj ?_;refine zad ty3 (zbU hA2) (Ext.refl w1_) λhI8=>?_;refine zao ?_;refine br (λc1=>?_) (λc1=>?_)
 · refine zab zcX ?_
   refine zad ty3 (zbK hA2) (Ext.refl w1_) λhI12=>?_;refine (l01In_ok ).mono ?_;rintro _ w2_ ⟨η2,rfl⟩;refine br (λc2=>?_) (λc2=>?_)
   · refine zab zcA ?_
     refine zaS ty9 (zbl hA2) η2 λhS16=>?_;refine zbb ?_;refine br (λc3=>?_) (λc3=>?_)
     · refine zab zbs ?_
       refine zaa zdw (zaU hA2) η2 λv21 h21=>?_;have hln22:=zah h21;refine zae zfp h21 ?_;refine zao ?_;refine ⟨(η1.t η2),?_⟩;rw [zeu c1];simp only [c2,c3,and_self,decide_true,Bool.true_and]
     refine ⟨(η1.t η2),?_⟩;rw [zeu c1];simp only [c3,decide_false,Bool.and_false,Bool.false_and]
   refine ⟨(η1.t η2),?_⟩;rw [zeu c1];simp only [c2,decide_false,Bool.false_and]
 refine zao ?_;refine br (λc4=>?_) (λc4=>?_)
 · refine zab zcX ?_
   refine zad ty3 (zbK hA2) (Ext.refl w1_) λhI28=>?_;refine zao ?_;refine br (λc5=>?_) (λc5=>?_)
   · refine zab zcA ?_
     refine zaS ty9 (zbl hA2) (Ext.refl w1_) λhS32=>?_;refine (zg2 ).mono ?_;rintro _ w3_ ⟨η3,rfl⟩;refine zbz (λc6=>?_) (λc6=>?_)
     · refine zab zbs ?_
       refine zaa zdw (zaU hA2) η3 λv37 h37=>?_;have hln38:=zah h37;refine zae zfp h37 ?_;refine zao ?_;refine ⟨(η1.t η3),?_⟩;rw [zfV c4];simp only [c5,c6,decide_true,Bool.true_and]
     refine ⟨(η1.t η3),?_⟩;rw [zfV c4];simp only [c5,c6,decide_true,Bool.true_and,Bool.false_and]
   refine ⟨η1,?_⟩;rw [zfV c4];simp only [c5,decide_false,Bool.false_and]
 refine JOIN.mk (λus w'=>us=[.int .i64 (if t.kind=8 then 1 else 2)]∧Ext w1_ w'∧(True)) ?_ ?_
 · refine zab zdj ?_
   refine zad ty3 (zbU hA2) (Ext.refl w1_) λhI42=>?_;refine zao ?_;refine br (λc7=>?_) (λc7=>?_)
   · refine ⟨by rw [if_pos c7],Ext.refl w1_,?_⟩
     trivial
   refine ⟨by rw [if_neg c7],Ext.refl w1_,?_⟩;trivial
 rintro uj9 w4_ ⟨hu,η4,hinv⟩;try replace hu:=zbi hu
 try rw [hu]
 try clear hu
 refine zab zdj ?_;refine zad ty3 (zbU hA2) η4 λhI45=>?_;refine (l01In_ok ).mono ?_;rintro _ w5_ ⟨η5,rfl⟩;refine zaq ?_;refine br (λc8=>?_) (λc8=>?_)
 · refine ⟨(η1.t (η4.t η5)),?_⟩
   rw [zbw c1 c4];simp only [c8,decide_false,Bool.false_and]
 refine zab zcX ?_;refine zad ty3 (zbK hA2) (η4.t η5) λhI50=>?_;refine zaB ?_;refine br (λc9=>?_) (λc9=>?_)
 · refine ⟨(η1.t (η4.t η5)),?_⟩
   rw [zbw c1 c4];simp only [show ¬t.num=0 from c9,decide_false,Bool.false_and,Bool.and_false]
 refine zab zcA ?_;refine zaS ty9 (zbl hA2) (η4.t η5) λhS55=>?_;refine ziL ?_;refine br (λc10=>?_) (λc10=>?_)
 · refine ⟨(η1.t (η4.t η5)),?_⟩
   rw [zbw c1 c4];simp only [show ¬t.name=_ from c10,decide_false,Bool.false_and,Bool.and_false]
 refine zab zbs ?_;refine zaa zdw (zaU hA2) (η4.t η5) λv60 h60=>?_;have hln61:=zah h60;refine zae zfp h60 ?_;refine zaB ?_;refine br (λc11=>?_) (λc11=>?_)
 · refine ⟨(η1.t (η4.t η5)),?_⟩
   rw [zbw c1 c4];simp only [show ¬(t.kids.length:Int)=_ from c11,decide_false,Bool.false_and,Bool.and_false]
 refine zao ?_;refine br (λc12=>?_) (λc12=>?_)
 · refine ⟨(η1.t (η4.t η5)),?_⟩
   rw [zbw c1 c4];simp [show n=0 by omega]
 refine zam (t.kids.length) (λk us w'=>us=[.int .i64 (k:Int)]∧Ext w5_ w'∧((t.kids.take k).all (zbP (n-1))=true)) (0) (by omega) ⟨by simp,Ext.refl w5_,by simp⟩ ?_;rintro k m12 uu12 w6_ hk12 ⟨hu,η6,hinv⟩;try replace hu:=zbi hu
 try rw [hu]
 try clear hu
 refine zab zbs ?_;refine zaa zdw (zaU hA2) (η4.t (η5.t η6)) λv71 h71=>?_;have hln72:=zah h71;refine zae zfp h71 ?_;refine zag ?_;refine br (λc13=>?_) (λc13=>?_)
 · refine zab zbs ?_
   refine zaa zdw (zaU hA2) (η4.t (η5.t η6)) λv77 h77=>?_;refine zac zfp zbB h77 (by omega) λb79 o79 h79=>?_;refine zaa zbB h79 (η4.t (η5.t η6)) λv80 h80=>?_;refine zbd (by unfold I64;omega) ?_;refine (ih (n-1) (by omega) h80 (η4.t (η5.t η6)) (by omega)).mono ?_;rintro _ w7_ ⟨η7,rfl⟩;refine zaX ?_;refine zbz (λc14=>?_) (λc14=>?_)
   · refine ⟨(η1.t (η4.t (η5.t (η6.t η7)))),?_⟩
     rw [zbw c1 c4];obtain ⟨m,rfl⟩:∃ m,n=m+1:=⟨n-1,by omega⟩;rw [Bool.not_eq_true',Nat.add_sub_cancel] at c14;simp only [zg4 (by omega) c14,Bool.and_false]
   have hln:=zah h71;refine zas ?_;refine ⟨m12-1,by omega,k+1,by omega,by simp,(η6.t η7),?_⟩;exact ziu (by omega) hinv (by simpa using c14)
 refine ⟨(η1.t (η4.t (η5.t η6))),?_⟩;rw [zbw c1 c4];obtain ⟨m,rfl⟩:∃ m,n=m+1:=⟨n-1,by omega⟩;rw [Nat.add_sub_cancel] at hinv;simp only [Decidable.not_not.1 c8,Decidable.not_not.1 c9,Decidable.not_not.1 c10,Decidable.not_not.1 c11,ziv (by omega) hinv,and_self,decide_true,Bool.and_self]
theorem zje:∀ (n:Nat),n≤6→zwO 174 n
 | n,hn=>by intro h e hd;exact zli h e hd (λm hm=>zje m (by omega)) hn
def F126 (a0:Value) (w:World) (R:VW):Prop:=
 oX 109 a0 w λx1 w=>
 rL 109 x1 w λx3=>
 cL 174 [x3,(iV 6)] w λx4 w=>
 R x4 w
theorem F126_call {a0 w R} (h:F126 a0 w R):cL 126 [a0] w R:=co (g:=(kf [] [] [])) Tryz.func126 h
theorem zfb {w:World} {v0:Value} {W0:World} {t:DTerm}  (h0:Is W0 v0 t) (e0:Ext W0 w)  :
   CALL tp 126 [v0] w λr w'=>Ext w w'∧(r=.bool (zbP 6 t)):=by
 refine F126_call ?_;unfold F126;refine zar zbB rfl h0 e0 λw1_ η1 hA1 hV1=>?_;refine zaR hV1 (Ext.refl w1_) ?_;refine ((zje 6 (by omega)) h0 (e0.t η1) rfl).mono ?_;rintro _ w2_ ⟨η2,rfl⟩;refine ⟨(η1.t η2),?_⟩;rfl
def term0:DTerm:=.mk 0 0 (ByteArray.mk #[]) []
def F185 (a0:Value) (w:World) (R:VW):Prop:=
 oX 109 a0 w λx1 w=>
 rF 109 x1 0 w λx3=>
 rL 3 x3 w λx4=>
 rQ x4 (iV 0) w λx5=>
 BR x5
 (rF 109 x1 1 w λx7=>
 rL 3 x7 w λx8=>
 rQ x8 (iV 0) w λx9=>
 BR x9
 (rF 109 x1 2 w λx12=>
 rL 9 x12 w λx13=>
 rB .eql 9 T0 U0 x13 (Value.string (ByteArray.mk #[])) w λx14=>
 BR x14
 (rF 109 x1 3 w λx17=>
 rL 107 x17 w λx18=>
 rN 107 3 x18 w λx19=>
 rQ x19 (iV 0) w λx20=>
 R x20 w)
 (R vF w))
 (R vF w))
 (R vF w)
theorem F185_call {a0 w R} (h:F185 a0 w R):cL 185 [a0] w R:=co (g:=(kf [] [] [])) Tryz.func185 h
theorem zlj {w:World} {v0:Value} {W0:World} {t:DTerm}  (h0:Is W0 v0 t) (e0:Ext W0 w)  :
   CALL tp 185 [v0] w λr w'=>Ext w w'∧(r=.bool (decide (t=term0))):=by
 refine F185_call ?_;unfold F185;refine zar zbB rfl h0 e0 λw1_ η1 hA1 hV1=>?_;refine zab zdj ?_;refine zad ty3 (zbU hA1) (Ext.refl w1_) λhI4=>?_;refine zao ?_;refine br (λc1=>?_) (λc1=>?_)
 · refine zab zcX ?_
   refine zad ty3 (zbK hA1) (Ext.refl w1_) λhI8=>?_;refine zao ?_;refine br (λc2=>?_) (λc2=>?_)
   · refine zab zcA ?_
     refine zaS ty9 (zbl hA1) (Ext.refl w1_) λhS13=>?_;refine zbb ?_;refine br (λc3=>?_) (λc3=>?_)
     · refine zab zbs ?_
       refine zaa zdw (zaU hA1) (Ext.refl w1_) λv18 h18=>?_;have hln19:=zah h18;refine zae zfp h18 ?_;refine zao ?_;refine ⟨η1,?_⟩;congr 1;rw [decide_eq_decide,DTerm.ext_iff];exact ⟨λh=>⟨c1,c2,c3,List.eq_nil_of_length_eq_zero (by omega)⟩,λh=>by rw [h.2.2.2];rfl⟩
     refine ⟨η1,?_⟩;have:t≠term0:=λe=>c3 (by rw [e];rfl);simp [this]
   refine ⟨η1,?_⟩;have:t≠term0:=λe=>c2 (by rw [e];rfl);simp [this]
 refine ⟨η1,?_⟩;have:t≠term0:=λe=>c1 (by rw [e];rfl);simp [this]
def F128 (a0 a1:Value) (w:World) (R:VW):Prop:=
 oX 109 a0 w λx2 w=>
 oX 109 a1 w λx3 w=>
 rF 109 x2 0 w λx6=>
 rL 3 x6 w λx7=>
 rF 109 x3 0 w λx8=>
 rL 3 x8 w λx9=>
 rB .neq 3 T0 T0 x7 x9 w λx10=>
 BR x10
 (R vF w)
 (rF 109 x2 1 w λx12=>
 rL 3 x12 w λx13=>
 rF 109 x3 1 w λx14=>
 rL 3 x14 w λx15=>
 rB .neq 3 T0 T0 x13 x15 w λx16=>
 BR x16
 (R vF w)
 (rF 109 x2 2 w λx19=>
 rL 9 x19 w λx20=>
 rF 109 x3 2 w λx21=>
 rL 9 x21 w λx22=>
 rB .neq 9 T0 T0 x20 x22 w λx23=>
 BR x23
 (R vF w)
 (rF 109 x2 3 w λx26=>
 rL 107 x26 w λx27=>
 rN 107 3 x27 w λx28=>
 rF 109 x3 3 w λx29=>
 rL 107 x29 w λx30=>
 rN 107 3 x30 w λx31=>
 rB .neq 3 T0 T0 x28 x31 w λx32=>
 BR x32
 (R vF w)
 (LOOPI [5] [(iV 0)] w λu4 w n4=>
 rF 109 x2 3 w λx35=>
 rL 107 x35 w λx36=>
 rN 107 3 x36 w λx37=>
 rC (u4 5) x37 w λx38=>
 BR x38
 ((λw=>rF 109 x2 3 w λx41=>
 rL 107 x41 w λx42=>
 rX 107 x42 (u4 5) w λx44=>
 rL 109 x44 w λx45=>
 rF 109 x3 3 w λx46=>
 rL 107 x46 w λx47=>
 rX 107 x47 (u4 5) w λx49=>
 rL 109 x49 w λx50=>
 cL 128 [x45,x50] w λx51 w=>
 rT x51 w λx52=>
 BR x52
 (R vF w)
 (rI (u4 5) w λx40=>
 n4 [x40] w)) (World.drew1 w))
 (R vT w)))))
theorem F128_call {a0 a1 w R} (h:F128 a0 a1 w R):cL 128 [a0,a1] w R:=co (g:=(kf [] [(4,9007182074871856,[5])] [(6,[0,1,2,3,4,5,6,7,8,9,10,11],0)])) Tryz.func128 h
theorem zmH {w:World} {v0:Value} {W0:World} {t:DTerm} {v1:Value} {W1:World} {t2:DTerm}  (h0:Is W0 v0 t) (e0:Ext W0 w) (h1:Is W1 v1 t2) (e1:Ext W1 w) (ht:t2=term0) :
   CALL tp 128 [v0,v1] w λr w'=>Ext w w'∧(r=.bool (decide (t=term0))):=by
 refine F128_call ?_;unfold F128;subst ht;refine zar zbB rfl h0 e0 λw1_ η1 hA2 hV2=>?_;refine zar zbB rfl h1 (e1.trans η1) λw2_ η2 hA3 hV3=>?_;refine zab zdj ?_;refine zad ty3 (zbU hA2) η2 λhI7=>?_;refine zab zdj ?_;refine zad ty3 (zbU hA3) (Ext.refl w2_) λhI9=>?_;refine zaB ?_;refine br (λc1=>?_) (λc1=>?_)
 · refine ⟨(η1.t η2),?_⟩
   have:t≠term0:=λe=>c1 (by rw [e]);simp [this]
 refine zab zcX ?_;refine zad ty3 (zbK hA2) η2 λhI13=>?_;refine zab zcX ?_;refine zad ty3 (zbK hA3) (Ext.refl w2_) λhI15=>?_;refine zaB ?_;refine br (λc2=>?_) (λc2=>?_)
 · refine ⟨(η1.t η2),?_⟩
   have:t≠term0:=λe=>c2 (by rw [e]);simp [this]
 refine zab zcA ?_;refine zaS ty9 (zbl hA2) η2 λhS20=>?_;refine zab zcA ?_;refine zaS ty9 (zbl hA3) (Ext.refl w2_) λhS22=>?_;refine ziL ?_;refine br (λc3=>?_) (λc3=>?_)
 · refine ⟨(η1.t η2),?_⟩
   have:t≠term0:=λe=>c3 (by rw [e]);simp [this]
 refine zab zbs ?_;refine zaa zdw (zaU hA2) η2 λv27 h27=>?_;have hln28:=zah h27;refine zae zfp h27 ?_;refine zab zbs ?_;refine zaa zdw (zaU hA3) (Ext.refl w2_) λv30 h30=>?_;have hln31:=zah h30;refine zae zfp h30 ?_;refine zaB ?_;refine br (λc4=>?_) (λc4=>?_)
 · refine ⟨(η1.t η2),?_⟩
   have:t≠term0:=λe=>c4 (by rw [e]);simp [this]
 refine zam (0) (λk us w'=>us=[.int .i64 (k:Int)]∧Ext w2_ w'∧(True)) (0) (by omega) ⟨by simp,Ext.refl w2_,trivial⟩ ?_;rintro k m4 uu4 w3_ hk4 ⟨hu,η3,hinv⟩;try replace hu:=zbi hu
 try rw [hu]
 try clear hu
 refine zab zbs ?_;refine zaa zdw (zaU hA2) (η2.t η3) λv36 h36=>?_;have hln37:=zah h36;refine zae zfp h36 ?_;refine zag ?_;refine br (λc5=>?_) (λc5=>?_)
 · have η4:=zaj w3_
   exact absurd c5 (by have:(term0.kids.length:Int)=0:=rfl;omega)
 refine ⟨(η1.t (η2.t η3)),?_⟩;have:t=term0:=DTerm.ext_iff.2 ⟨Decidable.not_not.1 c1,Decidable.not_not.1 c2,Decidable.not_not.1 c3,List.eq_nil_of_length_eq_zero (by have:(term0.kids.length:Int)=0:=rfl;omega)⟩;simp [this]
def plc (s:ByteArray):List ByteArray→Int
 | []=>-1
 | x :: l=>if x=s then 0 else if plc s l<0 then -1 else plc s l+1
theorem zo9 {s:ByteArray} {l:List ByteArray} (h:s∉l):plc s l=-1:=by
 induction l with
 | nil=>rfl
 | cons x l ih=>
   simp only [List.mem_cons,not_or] at h;rw [plc,if_neg (λe=>h.1 e.symm),ih h.2];rfl
theorem zrD {s:ByteArray}:∀ {l:List ByteArray} {k:Nat} (hk:k<l.length),s∉l.take k→l[k]=s→plc s l=k
 | x :: l,0,_,_,h=>by simp only [List.getElem_cons_zero] at h;rw [plc,if_pos h];rfl
 | x :: l,k+1,hk,hn,h=>by
   simp only [List.take_succ_cons,List.mem_cons,not_or] at hn;have ih:=zrD (by simpa using hk) hn.2 (by simpa using h);rw [plc,if_neg (λe=>hn.1 e.symm),ih,if_neg (by omega)];omega
theorem zwt {s:ByteArray} {l:List ByteArray}:-1≤plc s l∧plc s l<l.length:=by
 induction l with
 | nil=>simp [plc]
 | cons x l ih=>
   rw [plc];split
   · simp only [List.length_cons];omega
   split<;>simp only [List.length_cons]<;>omega
theorem zfG {s:ByteArray} {l:List ByteArray}:0≤plc s l↔s∈l:=by
 induction l with
 | nil=>simp [plc]
 | cons x l ih=>
   rw [plc];split
   · rename_i h;simp [h]
   rename_i h
   rw [List.mem_cons,←ih];have:¬s=x:=λe=>h e.symm;simp only [this,false_or];split<;>omega
theorem zdF {l:List ByteArray} {k:Nat} {y:ByteArray} (hk:k<l.length) (h:y∉l.take k) (c:¬l[k]=y):y∉l.take (k+1):=by
 rw [tk hk];simp only [List.mem_append,List.mem_cons,List.not_mem_nil,or_false,not_or];exact ⟨h,λe=>c e.symm⟩
def F123 (a0 a1:Value) (w:World) (R:VW):Prop:=
 LOOPI [5] [(iV 0)] w λu2 w n2=>
 rN 22 3 a0 w λx8=>
 rC (u2 5) x8 w λx9=>
 BR x9
 (rX 22 a0 (u2 5) w λx14=>
 rL 9 x14 w λx15=>
 rB .eql 9 T0 T0 x15 a1 w λx17=>
 BR x17
 (R (u2 5) w)
 (rI (u2 5) w λx11=>
 n2 [x11] w))
 (R (iV (-1)) w)
theorem F123_call {a0 a1 w R} (h:F123 a0 a1 w R):cL 123 [a0,a1] w R:=co (g:=(kf [] [(2,524272,[5])] [])) Tryz.func123 h
theorem zdG {w:World} {v0:Value} {W0:World} {l:(List ByteArray)} {s:ByteArray}  (h0:Is W0 v0 l) (e0:Ext W0 w)  :
   CALL tp 123 [v0,.string s] w λr w'=>Ext w w'∧(r=.int .i64 (plc s l)):=by
 refine F123_call ?_;unfold F123;refine zam (l.length) (λk us w'=>us=[.int .i64 (k:Int)]∧Ext w w'∧(s∉l.take k)) (0) (by omega) ⟨by simp,Ext.refl w,by simp⟩ ?_;rintro k m2 uu2 w1_ hk2 ⟨hu,η1,hinv⟩;try replace hu:=zbi hu
 try rw [hu]
 try clear hu
 have hln8:=zah h0;refine zae u22 h0 ?_;refine zag ?_;refine br (λc1=>?_) (λc1=>?_)
 · refine zac u22 ty9 h0 (by omega) λb14 o14 h14=>?_
   refine zaS ty9 h14 (e0.t η1) λhS15=>?_;refine zbb ?_;refine br (λc2=>?_) (λc2=>?_)
   · refine ⟨η1,?_⟩
     rw [zrD (by omega) hinv c2]
   refine zas ?_;refine ⟨m2-1,by omega,k+1,by omega,by simp,η1,?_⟩;exact zdF (by omega) hinv c2
 refine ⟨η1,?_⟩;rw [List.take_of_length_le (by omega)] at hinv;rw [zo9 hinv]
def F186 (a0 a1:Value) (w:World) (R:VW):Prop:=
 rN 22 3 a0 w λx7=>
 LOOPI [8] [(iV 0)] w λu2 w n2=>
 rC (u2 8) x7 w λx9=>
 BR x9
 (rX 22 a0 (u2 8) w λx14=>
 rL 9 x14 w λx15=>
 rB .eql 9 T0 T0 a1 x15 w λx16=>
 BR x16
 (R (u2 8) w)
 (rI (u2 8) w λx18=>
 n2 [x18] w))
 (R (iV (-1)) w)
theorem F186_call {a0 a1 w R} (h:F186 a0 a1 w R):cL 186 [a0,a1] w R:=co (g:=(kf [] [(2,524080,[8])] [])) Tryz.func186 h
theorem zjf {w:World} {v0:Value} {W0:World} {l:(List ByteArray)} {s:ByteArray}  (h0:Is W0 v0 l) (e0:Ext W0 w)  :
   CALL tp 186 [v0,.string s] w λr w'=>Ext w w'∧(r=.int .i64 (plc s l)):=by
 refine F186_call ?_;unfold F186;have hln7:=zah h0;refine zae u22 h0 ?_;refine zam (l.length) (λk us w'=>us=[.int .i64 (k:Int)]∧Ext w w'∧(s∉l.take k)) (0) (by omega) ⟨by simp,Ext.refl w,by simp⟩ ?_;rintro k m2 uu2 w1_ hk2 ⟨hu,η1,hinv⟩;try replace hu:=zbi hu
 try rw [hu]
 try clear hu
 refine zag ?_;refine br (λc1=>?_) (λc1=>?_)
 · refine zac u22 ty9 h0 (by omega) λb14 o14 h14=>?_
   refine zaS ty9 h14 (e0.t η1) λhS15=>?_;refine zbb ?_;refine br (λc2=>?_) (λc2=>?_)
   · refine ⟨η1,?_⟩
     rw [zrD (by omega) hinv c2.symm]
   refine zas ?_;refine ⟨m2-1,by omega,k+1,by omega,by simp,η1,?_⟩;exact zdF (by omega) hinv (λe=>c2 e.symm)
 refine ⟨η1,?_⟩;rw [List.take_of_length_le (by omega)] at hinv;rw [zo9 hinv]
def F169 (a0 a1:Value) (w:World) (R:VW):Prop:=
 cL 186 [a0,a1] w λx7 w=>
 rB .geq 3 T0 U0 x7 (iV 0) w λx8=>
 R x8 w
theorem F169_call {a0 a1 w R} (h:F169 a0 a1 w R):cL 169 [a0,a1] w R:=co (g:=(kf [] [] [])) Tryz.func169 h
theorem zco {w:World} {v0:Value} {W0:World} {l:(List ByteArray)} {s:ByteArray}  (h0:Is W0 v0 l) (e0:Ext W0 w)  :
   CALL tp 169 [v0,.string s] w λr w'=>Ext w w'∧(r=.bool (decide (s∈l))):=by
 refine F169_call ?_;unfold F169;refine (zjf h0 e0).mono ?_;rintro _ w1_ ⟨η1,rfl⟩;refine zb0 ?_;refine ⟨η1,?_⟩;simp [zfG]
def F155 (a0 a1:Value) (w:World) (R:VW):Prop:=
 LOOPI [5] [(iV 0)] w λu2 w n2=>
 rN 22 3 a0 w λx8=>
 rC (u2 5) x8 w λx9=>
 BR x9
 (rX 22 a0 (u2 5) w λx14=>
 rL 9 x14 w λx15=>
 rB .eql 9 T0 T0 x15 a1 w λx17=>
 BR x17
 (R vT w)
 (rI (u2 5) w λx11=>
 n2 [x11] w))
 (R vF w)
theorem F155_call {a0 a1 w R} (h:F155 a0 a1 w R):cL 155 [a0,a1] w R:=co (g:=(kf [] [(2,262128,[5])] [])) Tryz.func155 h
theorem zmI {w:World} {v0:Value} {W0:World} {l:(List ByteArray)} {s:ByteArray}  (h0:Is W0 v0 l) (e0:Ext W0 w)  :
   CALL tp 155 [v0,.string s] w λr w'=>Ext w w'∧(r=.bool (decide (s∈l))):=by
 refine F155_call ?_;unfold F155;refine zam (l.length) (λk us w'=>us=[.int .i64 (k:Int)]∧Ext w w'∧(s∉l.take k)) (0) (by omega) ⟨by simp,Ext.refl w,by simp⟩ ?_;rintro k m2 uu2 w1_ hk2 ⟨hu,η1,hinv⟩;try replace hu:=zbi hu
 try rw [hu]
 try clear hu
 have hln8:=zah h0;refine zae u22 h0 ?_;refine zag ?_;refine br (λc1=>?_) (λc1=>?_)
 · refine zac u22 ty9 h0 (by omega) λb14 o14 h14=>?_
   refine zaS ty9 h14 (e0.t η1) λhS15=>?_;refine zbb ?_;refine br (λc2=>?_) (λc2=>?_)
   · refine ⟨η1,?_⟩
     have:s∈l:=c2▸List.getElem_mem _;simp [this]
   refine zas ?_;refine ⟨m2-1,by omega,k+1,by omega,by simp,η1,?_⟩;exact zdF (by omega) hinv c2
 refine ⟨η1,?_⟩;rw [List.take_of_length_le (by omega)] at hinv;simp [hinv]
def F181 (a0 a1:Value) (w:World) (R:VW):Prop:=
 rN 22 3 a0 w λx8=>
 rB .gtr 3 T0 T0 x8 a1 w λx10=>
 BR x10
 (R vF w)
 (rN 22 3 a0 w λx12=>
 LOOPI [13] [(iV 0)] w λu4 w n4=>
 rC (u4 13) x12 w λx14=>
 BR x14
 (rX 22 a0 (u4 13) w λx15=>
 rL 9 x15 w λx16=>
 cL 222 [x16] w λx18 w=>
 rT x18 w λx19=>
 BR x19
 (R vF w)
 (rI (u4 13) w λx20=>
 n4 [x20] w))
 (R vT w))
theorem F181_call {a0 a1 w R} (h:F181 a0 a1 w R):cL 181 [a0,a1] w R:=co (g:=(kf [] [(4,2089040,[13])] [])) Tryz.func181 h
theorem zgr {w:World} {v0:Value} {W0:World} {l:(List ByteArray)} {m:Int}  (h0:Is W0 v0 l) (e0:Ext W0 w)  :
   CALL tp 181 [v0,.int .i64 m] w λr w'=>Ext w w'∧(r=.bool (decide ((l.length:Int)≤m)&&l.all zbM)):=by
 refine F181_call ?_;unfold F181;have hln8:=zah h0;refine zae u22 h0 ?_;refine zcK ?_;refine br (λc1=>?_) (λc1=>?_)
 · refine ⟨Ext.refl w,?_⟩
   simp [show ¬(l.length:Int)≤m by omega]
 have hln12:=zah h0;refine zae u22 h0 ?_;refine zam (l.length) (λk us w'=>us=[.int .i64 (k:Int)]∧Ext w w'∧((l.take k).all zbM=true)) (0) (by omega) ⟨by simp,Ext.refl w,by simp⟩ ?_;rintro k m4 uu4 w1_ hk4 ⟨hu,η1,hinv⟩;try replace hu:=zbi hu
 try rw [hu]
 try clear hu
 refine zag ?_;refine br (λc2=>?_) (λc2=>?_)
 · refine zac u22 ty9 h0 (by omega) λb15 o15 h15=>?_
   refine zaS ty9 h15 (e0.t η1) λhS16=>?_;refine (zg3 ).mono ?_;rintro _ w2_ ⟨η2,rfl⟩;refine zaX ?_;refine zbz (λc3=>?_) (λc3=>?_)
   · refine ⟨(η1.t η2),?_⟩
     simp only [zg4 (p:=zbM) (l:=l) (k:=k) (by omega) (by simpa using c3),Bool.and_false]
   have hln:=zah h0;refine zas ?_;refine ⟨m4-1,by omega,k+1,by omega,by simp,(η1.t η2),?_⟩;exact ziu (by omega) hinv (by simpa using c3)
 refine ⟨η1,?_⟩;simp [ziv (p:=zbM) (l:=l) (by omega) hinv,show (l.length:Int)≤m by omega]
def F121 (a0 a1:Value) (w:World) (R:VW):Prop:=
 rN 22 3 a0 w λx7=>
 rB .gtr 3 T0 T0 x7 a1 w λx9=>
 BR x9
 (R vF w)
 (LOOPI [5] [(iV 0)] w λu4 w n4=>
 rN 22 3 a0 w λx12=>
 rC (u4 5) x12 w λx13=>
 BR x13
 (rX 22 a0 (u4 5) w λx18=>
 rL 9 x18 w λx19=>
 cL 173 [x19] w λx20 w=>
 rT x20 w λx21=>
 BR x21
 (R vF w)
 (rI (u4 5) w λx15=>
 n4 [x15] w))
 (R vT w))
theorem F121_call {a0 a1 w R} (h:F121 a0 a1 w R):cL 121 [a0,a1] w R:=co (g:=(kf [] [(4,4193328,[5])] [])) Tryz.func121 h
theorem zgs {w:World} {v0:Value} {W0:World} {l:(List ByteArray)} {m:Int}  (h0:Is W0 v0 l) (e0:Ext W0 w)  :
   CALL tp 121 [v0,.int .i64 m] w λr w'=>Ext w w'∧(r=.bool (decide ((l.length:Int)≤m)&&l.all zbM)):=by
 refine F121_call ?_;unfold F121;have hln7:=zah h0;refine zae u22 h0 ?_;refine zcK ?_;refine br (λc1=>?_) (λc1=>?_)
 · refine ⟨Ext.refl w,?_⟩
   simp [show ¬(l.length:Int)≤m by omega]
 refine zam (l.length) (λk us w'=>us=[.int .i64 (k:Int)]∧Ext w w'∧((l.take k).all zbM=true)) (0) (by omega) ⟨by simp,Ext.refl w,by simp⟩ ?_;rintro k m4 uu4 w1_ hk4 ⟨hu,η1,hinv⟩;try replace hu:=zbi hu
 try rw [hu]
 try clear hu
 have hln12:=zah h0;refine zae u22 h0 ?_;refine zag ?_;refine br (λc2=>?_) (λc2=>?_)
 · refine zac u22 ty9 h0 (by omega) λb18 o18 h18=>?_
   refine zaS ty9 h18 (e0.t η1) λhS19=>?_;refine (zg2 ).mono ?_;rintro _ w2_ ⟨η2,rfl⟩;refine zaX ?_;refine zbz (λc3=>?_) (λc3=>?_)
   · refine ⟨(η1.t η2),?_⟩
     simp only [zg4 (p:=zbM) (l:=l) (k:=k) (by omega) (by simpa using c3),Bool.and_false]
   refine zas ?_;refine ⟨m4-1,by omega,k+1,by omega,by simp,(η1.t η2),?_⟩;exact ziu (by omega) hinv (by simpa using c3)
 refine ⟨η1,?_⟩;simp [ziv (p:=zbM) (l:=l) (by omega) hinv,show (l.length:Int)≤m by omega]
instance decNodup:∀ (l:List ByteArray),Decidable l.Nodup
 | []=>isTrue List.nodup_nil
 | x :: l=>match decMemBA x l,decNodup l with
   | isFalse h,isTrue h'=>isTrue (List.nodup_cons.2 ⟨h,h'⟩)
   | isTrue h,_=>isFalse λe=>(List.nodup_cons.1 e).1 h
   | _,isFalse h=>isFalse λe=>h (List.nodup_cons.1 e).2
theorem zwu {l:List ByteArray} {k:Nat} (hk:k<l.length) (h:l[k]∈l.drop (k+1)):¬l.Nodup:=λhn=>by
 have e:l=l.take k++(l[k] :: l.drop (k+1)):=by simp
 rw [e,List.nodup_append] at hn;exact (List.nodup_cons.1 hn.2.1).1 h
theorem zvk {l:List ByteArray} {k:Nat} (hk:k<l.length) (h:l[k]∈l.take k):¬l.Nodup:=λhn=>by
 have e:l=l.take k++(l[k] :: l.drop (k+1)):=by simp
 rw [e,List.nodup_append] at hn;exact hn.2.2 _ h _ List.mem_cons_self rfl
theorem zjg {l:List ByteArray} {k:Nat} (hk:k<l.length) (h:(l.take k).Nodup) (c:l[k]∉l.take k):(l.take (k+1)).Nodup:=by
 rw [tk hk,List.nodup_append];refine ⟨h,by simp,λa ha b hb e=>?_⟩;simp only [List.mem_cons,List.not_mem_nil,or_false] at hb;subst e;subst hb;exact c ha
theorem zge:∀ {l:List ByteArray},(∀ (k:Nat) (hk:k<l.length),l[k]∉l.drop (k+1))→l.Nodup
 | [],_=>List.nodup_nil
 | x :: l,h=>List.nodup_cons.2 ⟨h 0 (by simp),zge λk hk=>h (k+1) (by simpa using hk)⟩
def F182 (a0:Value) (w:World) (R:VW):Prop:=
 rN 22 3 a0 w λx6=>
 LOOPI [7] [(iV 0)] w λu2 w n2=>
 rC (u2 7) x6 w λx8=>
 BR x8
 (rX 22 a0 (u2 7) w λx10=>
 rL 9 x10 w λx11=>
 rI (u2 7) w λx14=>
 rD (Instr.sliceAt 22 a0 (some x14) none none) w λx15=>
 cL 169 [x15,x11] w λx17 w=>
 BR x17
 (R vT w)
 (rI (u2 7) w λx18=>
 n2 [x18] w))
 (R vF w)
theorem F182_call {a0 w R} (h:F182 a0 w R):cL 182 [a0] w R:=co (g:=(kf [] [(2,524188,[7])] [])) Tryz.func182 h
theorem zgt {w:World} {v0:Value} {W0:World} {l:(List ByteArray)}  (h0:Is W0 v0 l) (e0:Ext W0 w)  :
   CALL tp 182 [v0] w λr w'=>Ext w w'∧(r=.bool (decide (¬l.Nodup))):=by
 refine F182_call ?_;unfold F182;have hln6:=zah h0;refine zae u22 h0 ?_;refine zam (l.length) (λk us w'=>us=[.int .i64 (k:Int)]∧Ext w w'∧(∀ (j:Nat) (hj:j<l.length),j<k→l[j]∉l.drop (j+1))) (0) (by omega) ⟨by simp,Ext.refl w,λj hj h=>by omega⟩ ?_;rintro k m2 uu2 w1_ hk2 ⟨hu,η1,hinv⟩;try replace hu:=zbi hu
 try rw [hu]
 try clear hu
 have hln:=zah h0;refine zag ?_;refine br (λc1=>?_) (λc1=>?_)
 · refine zac u22 ty9 h0 (by omega) λb10 o10 h10=>?_
   refine zaS ty9 h10 (e0.t η1) λhS11=>?_;refine zas ?_;refine zd0 u22 ty9 h0 (by omega) (by omega) λv15 h15=>?_;refine (zco h15 (e0.t η1)).mono ?_;rintro _ w2_ ⟨η2,rfl⟩;refine br (λc2=>?_) (λc2=>?_)
   · refine ⟨(η1.t η2),?_⟩
     simp [zwu (by omega) c2]
   refine zas ?_;refine ⟨m2-1,by omega,k+1,by omega,by simp,(η1.t η2),?_⟩;intro j hj hjk;by_cases h:j=k
   · subst h;exact c2
   exact hinv j hj (by omega)
 refine ⟨η1,?_⟩;simp [zge λj hj=>hinv j hj (by omega)]
def F122 (a0:Value) (w:World) (R:VW):Prop:=
 LOOPI [3] [(iV 0)] w λu2 w n2=>
 rN 22 3 a0 w λx6=>
 rC (u2 3) x6 w λx7=>
 BR x7
 ((λw=>rD (Instr.sliceAt 22 a0 none (some (u2 3)) none) w λx12=>
 rX 22 a0 (u2 3) w λx15=>
 rL 9 x15 w λx16=>
 cL 155 [x12,x16] w λx17 w=>
 BR x17
 (R vT w)
 (rI (u2 3) w λx9=>
 n2 [x9] w)) (World.drew1 w))
 (R vF w)
theorem F122_call {a0 w R} (h:F122 a0 w R):cL 122 [a0] w R:=co (g:=(kf [] [(2,262140,[3])] [(4,[0,1,2,3,4,5,6,7],0)])) Tryz.func122 h
theorem zgu {w:World} {v0:Value} {W0:World} {l:(List ByteArray)}  (h0:Is W0 v0 l) (e0:Ext W0 w)  :
   CALL tp 122 [v0] w λr w'=>Ext w w'∧(r=.bool (decide (¬l.Nodup))):=by
 refine F122_call ?_;unfold F122;refine zam (l.length) (λk us w'=>us=[.int .i64 (k:Int)]∧Ext w w'∧((l.take k).Nodup)) (0) (by omega) ⟨by simp,Ext.refl w,by simp⟩ ?_;rintro k m2 uu2 w1_ hk2 ⟨hu,η1,hinv⟩;try replace hu:=zbi hu
 try rw [hu]
 try clear hu
 have hln:=zah h0;have hln6:=zah h0;refine zae u22 h0 ?_;refine zag ?_;refine br (λc1=>?_) (λc1=>?_)
 · have η2:=zaj w1_
   refine zgo u22 ty9 h0 (by omega) (by omega) λv12 h12=>?_;refine zac u22 ty9 h0 (by omega) λb15 o15 h15=>?_;refine zaS ty9 h15 (e0.t (η1.t η2)) λhS16=>?_;refine (zmI h12 (e0.t (η1.t η2))).mono ?_;rintro _ w3_ ⟨η3,rfl⟩;refine br (λc2=>?_) (λc2=>?_)
   · refine ⟨(η1.t (η2.t η3)),?_⟩
     simp [zvk (by omega) c2]
   refine zas ?_;refine ⟨m2-1,by omega,k+1,by omega,by simp,(η1.t (η2.t η3)),?_⟩;exact zjg (by omega) hinv c2
 refine ⟨η1,?_⟩;rw [List.take_of_length_le (by omega)] at hinv;simp [hinv]
def F250 (a0 a1:Value) (w:World) (R:VW):Prop:=
 cL 169 [a0,a1] w λx7 w=>
 BR x7
 (R a0 w)
 (oP (bS 22 a1) w λx11 w=>
 oP (aP 22 a0 x11) w λx12 w=>
 R x12 w)
theorem F250_call {a0 a1 w R} (h:F250 a0 a1 w R):cL 250 [a0,a1] w R:=co (g:=(kf [] [] [])) Tryz.func250 h
def F220 (a0 a1:Value) (w:World) (R:VW):Prop:=
 oX 109 a1 w λx3 w=>
 rF 109 x3 0 w λx7=>
 rL 3 x7 w λx8=>
 rQ x8 (iV 2) w λx9=>
 BR x9
 (rF 109 x3 2 w λx11=>
 rL 9 x11 w λx12=>
 cL 250 [a0,x12] w λx13 w=>
 R x13 w)
 (rF 109 x3 3 w λx14=>
 rL 107 x14 w λx15=>
 rN 107 3 x15 w λx16=>
 LOOPI [0,17] [a0,(iV 0)] w λu4 w n4=>
 rC (u4 17) x16 w λx18=>
 BR x18
 (rX 107 x15 (u4 17) w λx19=>
 rL 109 x19 w λx20=>
 oP (aL 109) w λx6 w=>
 oS 109 x6 x20 w λw=>
 rL 109 x6 w λx22=>
 cL 220 [(u4 0),x22] w λx23 w=>
 rI (u4 17) w λx24=>
 n4 [x23,x24] w)
 (R (u4 0) w))
theorem F220_call {a0 a1 w R} (h:F220 a0 a1 w R):cL 220 [a0,a1] w R:=co (g:=(kf [] [(4,33423425,[0,17])] [])) Tryz.func220 h
def F175 (a0 a1:Value) (w:World) (R:VW):Prop:=
 oX 109 a0 w λx2 w=>
 rF 109 x2 0 w λx7=>
 rL 3 x7 w λx8=>
 rQ x8 (iV 2) w λx9=>
 BR x9
 (LOOPI [5] [(iV 0)] w λu3 w n3=>
 rN 22 3 a1 w λx12=>
 rC (u3 5) x12 w λx13=>
 BR x13
 ((λw=>rX 22 a1 (u3 5) w λx18=>
 rL 9 x18 w λx19=>
 rF 109 x2 2 w λx20=>
 rL 9 x20 w λx21=>
 rB .eql 9 T0 T0 x19 x21 w λx22=>
 BR x22
 (R a1 w)
 (rI (u3 5) w λx15=>
 n3 [x15] w)) (World.drew1 w))
 (rF 109 x2 2 w λx25=>
 rL 9 x25 w λx26=>
 oP (bS 22 x26) w λx27 w=>
 oP (aP 22 a1 x27) w λx28 w=>
 R x28 w))
 (LOOPI [1,6] [a1,(iV 0)] w λu9 w n9=>
 rF 109 x2 3 w λx30=>
 rL 107 x30 w λx31=>
 rN 107 3 x31 w λx32=>
 rC (u9 6) x32 w λx33=>
 BR x33
 (rF 109 x2 3 w λx36=>
 rL 107 x36 w λx37=>
 rX 107 x37 (u9 6) w λx39=>
 rL 109 x39 w λx40=>
 cL 175 [x40,(u9 1)] w λx42 w=>
 rI (u9 6) w λx35=>
 n9 [x42,x35] w)
 (R (u9 1) w))
theorem F175_call {a0 a1 w R} (h:F175 a0 a1 w R):cL 175 [a0,a1] w R:=co (g:=(kf [] [(3,16776240,[5]),(9,8795556151362,[1,6])] [(5,[0,1,2,3,4,5,6],0)])) Tryz.func175 h
def F168 (a0:Value) (w:World) (R:VW):Prop:=
 oX 109 a0 w λx1 w=>
 rL 109 x1 w λx3=>
 cL 184 [x3] w λx4 w=>
 rT x4 w λx5=>
 BR x5
 (R (Value.slice none 0 0) w)
 (rL 109 x1 w λx6=>
 cL 220 [(Value.slice none 0 0),x6] w λx7 w=>
 R x7 w)
theorem F168_call {a0 w R} (h:F168 a0 w R):cL 168 [a0] w R:=co (g:=(kf [] [] [])) Tryz.func168 h
def F127 (a0:Value) (w:World) (R:VW):Prop:=
 oX 109 a0 w λx1 w=>
 rL 109 x1 w λx3=>
 cL 126 [x3] w λx4 w=>
 rT x4 w λx5=>
 BR x5
 (oP (Instr.buildSlice 22 0 #[]) w λx6 w=>
 R x6 w)
 (rL 109 x1 w λx7=>
 oP (Instr.buildSlice 22 0 #[]) w λx8 w=>
 cL 175 [x7,x8] w λx9 w=>
 R x9 w)
theorem F127_call {a0 w R} (h:F127 a0 w R):cL 127 [a0] w R:=co (g:=(kf [] [] [])) Tryz.func127 h
def zs6 (l:List ByteArray) (s:ByteArray):List ByteArray:=if s∈l then l else l++[s]
theorem ztD (l:List ByteArray) (s:ByteArray):(zs6 l s).length≤l.length+1:=by unfold zs6;split<;>simp
def readsT:Nat→DTerm→List ByteArray→List ByteArray
 | n,t,l=>if t.kind=2 then zs6 l t.name else match n with | 0=>l | m+1=>t.kids.foldl (λl k=>readsT m k l) l
theorem zfW (n:Nat) (t:DTerm) (l:List ByteArray):readsT n t l=if t.kind=2 then zs6 l t.name else match n with | 0=>l | m+1=>t.kids.foldl (λl k=>readsT m k l) l:=readsT.eq_def n t l
theorem zkw {α β:Type} (f:β→α→β) (b:β) {l:List α} {k:Nat} (hk:k<l.length):(l.take (k+1)).foldl f b=f ((l.take k).foldl f b) l[k]:=by
 rw [tk hk,List.foldl_append];rfl
theorem zjh {n:Nat} {t:DTerm} (h:zbP n t=true) (h2:¬t.kind=2):t.kids=[]∨∃ m,n=m+1∧t.kids.length≤2∧∀ k∈t.kids,zbP m k=true:=by
 by_cases h1:t.kind=1
 · rw [zeu h1] at h
   simp only [Bool.and_eq_true,decide_eq_true_eq] at h;exact .inl (List.eq_nil_of_length_eq_zero (by omega))
 rw [zbw h1 h2] at h;simp only [Bool.and_eq_true,decide_eq_true_eq] at h;obtain ⟨⟨_,h3⟩,h4⟩:=h;cases n with
 | zero=>simp at h4
 | succ m=>
   refine .inr ⟨m,rfl,?_,λk hk=>List.all_eq_true.1 h4 k hk⟩;split at h3<;>omega
theorem zkx:∀ (n:Nat) (t:DTerm) (l:List ByteArray),zbP n t=true→(readsT n t l).length≤l.length+2^n
 | n,t,l,h=>by
   rw [zfW];have hp:1≤2^n:=Nat.one_le_two_pow;split
   · have:=ztD l t.name;omega
   rename_i h2
   rcases zjh h h2 with hk | ⟨m,rfl,hk,hall⟩
   · cases n with
     | zero=>simp
     | succ m=>simp [hk]
   show (t.kids.foldl (λl k=>readsT m k l) l).length≤_
   have key:∀ (ks:List DTerm) (l:List ByteArray),(∀ k∈ks,zbP m k=true)→(ks.foldl (λl k=>readsT m k l) l).length≤l.length+ks.length*2^m:=by
     intro ks
     induction ks with
     | nil=>intro l _;simp
     | cons k ks ih=>
       intro l hks;rw [List.foldl_cons,List.length_cons,Nat.add_mul,Nat.one_mul];have h1:=ih (readsT m k l) λx hx=>hks x (by simp [hx]);have h2:=zkx m k l (hks k (by simp));omega
   have h1:=key t.kids l hall;have h2:t.kids.length*2^m≤2*2^m:=Nat.mul_le_mul_right _ hk;rw [Nat.pow_succ];omega
theorem zpa {w:World} {v:Value} {l:List ByteArray} {F:List Nat} {s:ByteArray} {ty:TypeId} {K:Value→World→Prop} (hr:RowF F 9 w v l) (hn:F.Nodup) (hs:s.size≤maxLen) (hl:l.length≤1000000)
   (k:∀ v' w',Chg F w w'→(∃ F',RowF F' 9 w' v' (l++[s])∧F'.Nodup∧∀ b∈F',b∈F∨w.heap.size≤b)→K v' w') :
   OP tp (Instr.buildSlice 22 1 #[(0,.string s)]) w λx w1=>OP tp (Builtin.append_ #[22,22] ty [v,x].toArray) w1 K:=by
 refine zgX (α:=ByteArray) (x:=s) (F:=[]) u22 ty9 z9 (by decide) ⟨⟨_,⟨rfl,rfl,hs⟩,rfl⟩,List.nodup_nil,Wr.nil _⟩ λw1 hx1 hm1=>?_;obtain ⟨a,cap,Fi,xs,he,h1,h2,hc,h4⟩:=zdt hm1.is;have hFi:=Cells.flat (xs:=xs) hc;subst hFi;refine zgN (α:=ByteArray) (m:=[s]) u22 ty9 zc9 (hr.ext hx1) hn he hc (.inr ?_) (Wr.nil _) (by simpa using hn) (by simp only [List.length_cons,List.length_nil,zan];omega) (by simp only [List.length_cons,List.length_nil];omega) λv' w' F' hch hfull hr' hn' hs'=>?_
 · rcases h4 with h4 | ⟨b,o,ha,hra,_⟩
   · simp at h4
   exact ⟨b,o,ha,hra⟩
 have hown:∀ c∈v.ownBlock.toList,c∈F:=λc hc=>by
   obtain ⟨xs,Fi,_,_,rfl,_⟩:=hr;simp only [List.mem_append];exact .inl hc
 refine k v' w' ((Ext.chg F hx1).trans (hch.mono hown)) ⟨F',hr',hn',λb hb=>?_⟩;rcases hs' b hb with h | h | h
 · exact .inl h
 · simp at h
 exact .inr (Nat.le_trans hx1.size h)
theorem zql {w:World} {v:Value} {l:List ByteArray} {F:List Nat} {s:ByteArray} (hr:RowF F 9 w v l) (hn:F.Nodup) (hs:s.size≤maxLen) (hl:l.length≤1000000) :
   CALL tp 250 [v,.string s] w λr w'=>Chg F w w'∧∃ F',RowF F' 9 w' r (zs6 l s)∧F'.Nodup∧∀ b∈F',b∈F∨w.heap.size≤b:=by
 refine F250_call ?_;unfold F250;refine (zco hr.own.is (Ext.refl w)).mono ?_;rintro _ w1 ⟨hx1,rfl⟩;refine br (λc1=>?_) (λc1=>?_)
 · exact ⟨Ext.chg F hx1,F,by unfold zs6;rw [if_pos c1];exact hr.ext hx1,hn,λb hb=>.inl hb⟩
 refine zpa (hr.ext hx1) hn hs hl λv' w' hc ⟨F',h1,h2,h3⟩=>⟨(Ext.chg F hx1).trans hc,F',by unfold zs6;rw [if_neg c1];exact h1,h2,λb hb=>?_⟩;rcases h3 b hb with h | h
 · exact .inl h
 exact .inr (Nat.le_trans hx1.size h)
def zlk (F:List Nat) (w:World) (l:List ByteArray) (r:Value) (w':World):Prop:=Chg F w w'∧∃ F',RowF F' 9 w' r l∧F'.Nodup∧∀ b∈F',b∈F∨w.heap.size≤b
def zwZ (n:Nat):Prop:=∀ {w W:World} {v u:Value} {t:DTerm} {l:List ByteArray} {F:List Nat},Is W v t→Ext W w→RowF F 9 w u l→F.Nodup→(∀ b∈F,W.heap.size≤b)→zbP n t=true→l.length+2^n≤1000 →
 CALL tp 220 [u,v] w (zlk F w (readsT n t l))
def zw0 (n:Nat):Prop:=∀ {w W:World} {v u:Value} {t:DTerm} {l:List ByteArray} {F:List Nat},Is W v t→Ext W w→RowF F 9 w u l→F.Nodup→(∀ b∈F,W.heap.size≤b)→zbP n t=true→l.length+2^n≤1000 →
 CALL tp 175 [v,u] w (zlk F w (readsT n t l))
theorem zll {n:Nat} {t:DTerm} {l:List ByteArray} (h:t.kind=2):readsT n t l=zs6 l t.name:=by rw [zfW,if_pos h]
theorem zji {n:Nat} {t:DTerm} {l:List ByteArray} (h:zbP n t=true) (h2:¬t.kind=2) (hl:l.length+2^n≤1000) :
   ∃ m,(t.kids=[]∨n=m+1)∧readsT n t l=t.kids.foldl (λl k=>readsT m k l) l∧(∀ k∈t.kids,zbP m k=true)∧∀ k,k<t.kids.length→((t.kids.take k).foldl (λl k=>readsT m k l) l).length+2^m≤1000:=by
 rcases zjh h h2 with hk | ⟨m,rfl,hk,hall⟩
 · refine ⟨0,.inl hk,?_,by simp [hk],by simp [hk]⟩
   rw [zfW,if_neg h2,hk];cases n<;>rfl
 refine ⟨m,.inr rfl,by rw [zfW,if_neg h2],hall,λk hkl=>?_⟩;rw [Nat.pow_succ] at hl
 have key:∀ (ks:List DTerm) (l:List ByteArray),(∀ k∈ks,zbP m k=true)→(ks.foldl (λl k=>readsT m k l) l).length≤l.length+ks.length*2^m:=by
   intro ks
   induction ks with
   | nil=>intro l _;simp
   | cons k ks ih=>
     intro l hks;rw [List.foldl_cons,List.length_cons,Nat.add_mul,Nat.one_mul];have h1:=ih (readsT m k l) λx hx=>hks x (by simp [hx]);have h2:=zkx m k l (hks k (by simp));omega
 have h1:=key (t.kids.take k) l λx hx=>hall x (List.mem_of_mem_take hx);have h3:(t.kids.take k).length≤1:=by simp;omega
 have h4:(t.kids.take k).length*2^m≤1*2^m:=Nat.mul_le_mul_right _ h3;omega
theorem zpb {W w:World} {b o:Nat} {t:DTerm} (h:AtB W w b o t):AtB W w b (o+3) t.kids:=by
 have h':AtB W w b o t.tup:=by obtain ⟨F,cs,hr,ha⟩:=h;exact ⟨F,cs,zgq.1 hr,ha⟩
 exact h'.snd.snd.snd
theorem zlm {n:Nat} (ih:∀ m,m+1=n→zwZ m):zwZ n:=by
 intro w W v u t l F h e hr hn hF ht hl;refine F220_call ?_;unfold F220;refine zar zbB rfl h e λw1 hx1 hA hV=>?_;refine zab zdj ?_;refine zad ty3 (zbU hA) (Ext.refl w1) λ_=>?_;refine zao ?_;refine br (λc1=>?_) (λc1=>?_)
 · refine zab zcA ?_
   refine zaS ty9 (zbl hA) (Ext.refl w1) λhS=>?_;have hp:1≤2^n:=Nat.one_le_two_pow;refine (zql (hr.ext hx1) hn hS (by omega)).mono ?_;rintro r w2 ⟨hc,F',h1,h2,h3⟩;refine ⟨(Ext.chg F hx1).trans hc,F',by rw [zll c1];exact h1,h2,λb hb=>?_⟩;rcases h3 b hb with h | h
   · exact .inl h
   exact .inr (Nat.le_trans hx1.size h)
 obtain ⟨m,hm,he,hks,hlen⟩:=zji ht c1 hl;refine zab zbs ?_;refine zmk zdw (zpb (zfA h hV rfl)) (e.trans hx1) (Ext.refl w1) λv15 h15=>?_;refine zae zfp h15 ?_;have hll:=zah h15;refine zam t.kids.length (λk us w'=>∃ q,us=[q,.int .i64 (k:Int)]∧zlk F w ((t.kids.take k).foldl (λl k=>readsT m k l) l) q w') 0 (z0 _) ⟨u,rfl,Ext.chg F hx1,F,by simpa using hr.ext hx1,hn,λb hb=>.inl hb⟩ ?_;rintro k mm uu w2 hkm ⟨q,hu,hc2,F2,hr2,hn2,hs2⟩;obtain ⟨hu0,hu1⟩:=zbL hu;try rw [hu0]
 try rw [hu1]
 have hF2:∀ b∈F2,W.heap.size≤b:=λb hb=>by
   rcases hs2 b hb with h | h
   · exact hF b h
   exact Nat.le_trans e.size h
 have hxW:Ext W w2:=e.chg_trans hc2 hF;refine zag ?_;refine br (λc2=>?_) (λc2=>?_)
 · have hk:k<t.kids.length:=by omega
   obtain ⟨m',rfl⟩:∃ m',n=m'+1:=by
     rcases hm with h | h
     · rw [h] at hk;simp at hk
     exact ⟨m,h⟩
   have hmm:m'=m:=by
     rcases hm with h | h
     · rw [h] at hk;simp at hk
     omega
   subst hmm;refine zac zfp zbB h15 hk λb o hA2=>?_;refine zaa zbB hA2 hxW λv20 h20=>?_;refine zb7 zrg rfl zbB rfl h20 hxW λw3 hx3 hA3 hV3=>?_;refine zaR hV3 (Ext.refl w3) ?_;refine (ih m' rfl h20 (hxW.t hx3) (hr2.ext hx3) hn2 hF2 (hks _ (List.getElem_mem hk)) (hlen k hk)).mono ?_;rintro r w4 ⟨hc4,F4,hr4,hn4,hs4⟩;refine zas ?_;refine ⟨mm-1,by omega,k+1,by omega,r,rfl,?_⟩;refine ⟨?_,F4,by rw [zkw _ _ hk];exact hr4,hn4,λb hb=>?_⟩
   · -- the blocks of F alone have turned
     refine ⟨hc4.os.trans (hx3.os.trans hc2.os),hc4.tape.trans (hx3.tape.trans hc2.tape),hc4.output.trans (hx3.output.trans hc2.output),Nat.le_trans hc2.size (Nat.le_trans hx3.size hc4.size),λb hb hbF=>?_⟩;have hb2:b<w2.heap.size:=Nat.lt_of_lt_of_le hb hc2.size
     have hbF2:b∉F2:=λhm=>by
       rcases hs2 b hm with h | h
       · exact hbF h
       omega
     rw [hc4.block b (Nat.lt_of_lt_of_le hb2 hx3.size) hbF2,hx3.heap hb2,hc2.block b hb hbF]
   rcases hs4 b hb with h | h
   · exact hs2 b h
   have:=hx3.size;have:=hc2.size;exact .inr (by omega)
 rw [List.take_of_length_le (by omega),←he] at hr2;exact ⟨hc2,F2,hr2,hn2,hs2⟩
theorem zjj:∀ n,zwZ n
  | n=>zlm λm hm=>zjj m
termination_by n=>n
decreasing_by omega
theorem zln {n:Nat} (ih:∀ m,m+1=n→zw0 m):zw0 n:=by
 intro w W v u t l F h e hr hn hF ht hl;refine F175_call ?_;unfold F175;have hlen:=zah hr.own.is;have hp:1≤2^n:=Nat.one_le_two_pow;refine zar zbB rfl h e λw1 hx1 hA hV=>?_;have hg1:w.heap.size<w1.heap.size:=hV.lt;have hgF:w.heap.size∉F:=λhm=>by have:=hr.lt _ hm;omega
 refine zab zdj ?_;refine zad ty3 (zbU hA) (Ext.refl w1) λ_=>?_;refine zao ?_;refine br (λc1=>?_) (λc1=>?_)
 · have hr1:=hr.ext hx1
   refine zam l.length (λk us w'=>us=[.int .i64 (k:Int)]∧Ext w1 w'∧t.name∉l.take k) 0 (z0 _) ⟨rfl,Ext.refl w1,by simp⟩ ?_;rintro k mm uu w2 hkm ⟨hu,hx2,hinv⟩;try replace hu:=zbi hu
   rw [hu];refine zae u22 hr1.own.is ?_;refine zag ?_;refine br (λc2=>?_) (λc2=>?_)
   · have hk:k<l.length:=by omega
     have hx3:=hx2.t (zaj w2);refine zac u22 ty9 hr1.own.is hk λb o hA2=>?_;refine zaS ty9 hA2 hx3 λ_=>?_;refine zab zcA ?_;refine zaS ty9 (zbl hA) hx3 λ_=>?_;refine zbb ?_;refine br (λc3=>?_) (λc3=>?_)
     · have hm:t.name∈l:=c3▸List.getElem_mem hk
       refine ⟨Ext.chg F (hx1.t hx3),F,?_,hn,λb hb=>.inl hb⟩;rw [zll c1,zs6,if_pos hm];exact hr1.ext hx3
     refine zas ?_;exact ⟨mm-1,by omega,k+1,by omega,rfl,hx3,zdF hk hinv c3⟩
   rw [List.take_of_length_le (by omega)] at hinv;have hx3:=hx2.t (zaj w2)
   first
     | refine zab zcA ?_
     | skip
   refine zaS ty9 (zbl hA) hx2 λhS=>?_;refine zpa (hr1.ext hx2) hn hS (by omega) λv' w' hc ⟨F',h1,h2,h3⟩=>?_;refine ⟨(Ext.chg F (hx1.t hx2)).trans hc,F',by rw [zll c1,zs6,if_neg hinv];exact h1,h2,λb hb=>?_⟩;rcases h3 b hb with h | h
   · exact .inl h
   exact .inr (Nat.le_trans (hx1.t hx2).size h)
 obtain ⟨m,hm,he,hks,hlen⟩:=zji ht c1 hl;refine zam t.kids.length (λk us w'=>∃ q,us=[q,.int .i64 (k:Int)]∧zlk F w1 ((t.kids.take k).foldl (λl k=>readsT m k l) l) q w') 0 (z0 _) ⟨u,rfl,Chg.refl F w1,F,by simpa using hr.ext hx1,hn,λb hb=>.inl hb⟩ ?_;rintro k mm uu w2 hkm ⟨q,hu,hc2,F2,hr2,hn2,hs2⟩;obtain ⟨hu0,hu1⟩:=zbL hu;try rw [hu0]
 try rw [hu1]
 have hF2:∀ b∈F2,W.heap.size≤b:=λb hb=>by
   rcases hs2 b hb with h | h
   · exact hF b h
   have:=e.size;have:=hx1.size;omega
 have hxW:Ext W w2:=(e.trans hx1).chg_trans hc2 hF;have hB2:AtB W w2 w.heap.size 0 t:=(zfA h hV rfl).keep (hc2.block _ hg1 hgF);have hA2:=hB2.at hxW;refine zab zbs ?_;refine zaa zdw (zaU hA2) (Ext.refl w2) λv31 h31=>?_;refine zae zfp h31 ?_;have hll:=zah h31;refine zag ?_;refine br (λc2=>?_) (λc2=>?_)
 · have hk:k<t.kids.length:=by omega
   obtain ⟨m',rfl⟩:∃ m',n=m'+1:=by
     rcases hm with h | h
     · rw [h] at hk;simp at hk
     exact ⟨m,h⟩
   have hmm:m'=m:=by
     rcases hm with h | h
     · rw [h] at hk;simp at hk
     omega
   subst hmm;refine zab zbs ?_;refine zmk zdw (zpb hB2) hxW (Ext.refl w2) λv37 h37=>?_;refine zac zfp zbB h37 hk λb o hA3=>?_;refine zaa zbB hA3 hxW λv40 h40=>?_;refine (ih m' rfl h40 hxW hr2 hn2 hF2 (hks _ (List.getElem_mem hk)) (hlen k hk)).mono ?_;rintro r w4 ⟨hc4,F4,hr4,hn4,hs4⟩;refine zas ?_;refine ⟨mm-1,by omega,k+1,by omega,r,rfl,?_⟩;refine ⟨?_,F4,by rw [zkw _ _ hk];exact hr4,hn4,λb hb=>?_⟩
   · refine ⟨hc4.os.trans hc2.os,hc4.tape.trans hc2.tape,hc4.output.trans hc2.output,Nat.le_trans hc2.size hc4.size,λb hb hbF=>?_⟩
     have hb2:b<w2.heap.size:=Nat.lt_of_lt_of_le hb hc2.size
     have hbF2:b∉F2:=λhm=>by
       rcases hs2 b hm with h | h
       · exact hbF h
       omega
     rw [hc4.block b hb2 hbF2,hc2.block b hb hbF]
   rcases hs4 b hb with h | h
   · exact hs2 b h
   have:=hc2.size;exact .inr (by omega)
 rw [List.take_of_length_le (by omega),←he] at hr2;refine ⟨(Ext.chg F hx1).trans hc2,F2,hr2,hn2,λb hb=>?_⟩;rcases hs2 b hb with h | h
 · exact .inl h
 exact .inr (Nat.le_trans hx1.size h)
theorem zjk:∀ n,zw0 n
  | n=>zln λm hm=>zjk m
termination_by n=>n
decreasing_by omega
def zcb (t:DTerm):List ByteArray:=if zbP 6 t=true then readsT 6 t [] else []
theorem ztE {α:Type} [Rep α] (e:TypeId) (w:World):RowF (α:=α) [] e w (.slice none 0 0) []:=⟨[],[],⟨by simp,.inl ⟨rfl,rfl⟩⟩,⟨rfl,rfl⟩,rfl,Wr.nil _⟩
theorem zeF {w W:World} {v:Value} {t:DTerm} (h:Is W v t) (e:Ext W w):CALL tp 168 [v] w λr w'=>Ext w w'∧Is w' r (zcb t):=by
 refine F168_call ?_;unfold F168;refine zar zbB rfl h e λw1 hx1 hA hV=>?_;refine zaR hV (Ext.refl w1) ?_;refine (zfa h (e.trans hx1)).mono ?_;rintro _ w2 ⟨hx2,rfl⟩;refine zaX ?_;refine zbz (λc=>?_) (λc=>?_)
 · refine ⟨hx1.t hx2,?_⟩
   unfold zcb;rw [if_neg (by simpa using c)];exact zwg rfl
 have c:zbP 6 t=true:=by simpa using c
 refine zaR hV hx2 ?_;refine (zjj 6 h ((e.trans hx1).trans hx2) (ztE _ _) List.nodup_nil (by simp) c (by decide)).mono ?_;rintro r w3 ⟨hc,F',hr,hn,hs⟩;refine ⟨(hx1.t hx2).trans (Chg.ext hc),?_⟩;unfold zcb;rw [if_pos c];exact hr.own.is
theorem zeG {w W:World} {v:Value} {t:DTerm} (h:Is W v t) (e:Ext W w):CALL tp 127 [v] w λr w'=>Ext w w'∧Is w' r (zcb t):=by
 refine F127_call ?_;unfold F127;refine zar zbB rfl h e λw1 hx1 hA hV=>?_;refine zaR hV (Ext.refl w1) ?_;refine (zfb h (e.trans hx1)).mono ?_;rintro _ w2 ⟨hx2,rfl⟩;refine zaX ?_;refine zbz (λc=>?_) (λc=>?_)
 · refine ziO (α:=ByteArray) u22 ty9 λa w3 hx3 hr3=>?_
   refine ⟨(hx1.t hx2).trans hx3,?_⟩;unfold zcb;rw [if_neg (by simpa using c)];exact hr3.is
 have c:zbP 6 t=true:=by simpa using c
 refine zaR hV hx2 ?_;refine ziO (α:=ByteArray) u22 ty9 λa w3 hx3 hr3=>?_;obtain ⟨F,hr,hn,hl⟩:=hr3;have hx13:=(hx1.t hx2);refine (zjk 6 h ((e.trans hx13).trans hx3) hr hn (λb hb=>Nat.le_trans (e.trans hx13).size (hl b hb)) c (by decide)).mono ?_;rintro r w4 ⟨hc,F',hr',hn',hs'⟩;refine ⟨(hx13.t hx3).chg_trans hc (λb hb=>Nat.le_trans hx13.size (hl b hb)),?_⟩;unfold zcb;rw [if_pos c];exact hr'.own.is
def F39 (a0:Value) (w:World) (R:VW):Prop:=
 rN 22 3 a0 w λx6=>
 oP (Instr.makeSlice 22 x6 x6) w λx7 w=>
 LOOPI [4] [(iV 0)] w λu3 w n3=>
 rN 22 3 a0 w λx10=>
 rC (u3 4) x10 w λx11=>
 BR x11
 (rX 22 a0 (u3 4) w λx18=>
 rL 9 x18 w λx19=>
 rX 22 x7 (u3 4) w λx20=>
 oS 9 x20 x19 w λw=>
 rI (u3 4) w λx13=>
 n3 [x13] w)
 (R x7 w)
theorem F39_call {a0 w R} (h:F39 a0 w R):cL 39 [a0] w R:=co (g:=(kf [] [(3,2096912,[4])] [])) Tryz.func39 h
def F180 (a0:Value) (w:World) (R:VW):Prop:=
 rN 91 3 a0 w λx6=>
 oP (Instr.makeSlice 107 x6 x6) w λx7 w=>
 LOOPI [4] [(iV 0)] w λu3 w n3=>
 rN 91 3 a0 w λx10=>
 rC (u3 4) x10 w λx11=>
 BR x11
 (rX 91 a0 (u3 4) w λx18=>
 rL 93 x18 w λx19=>
 cL 131 [x19] w λx20 w=>
 rX 107 x7 (u3 4) w λx21=>
 oS 109 x21 x20 w λw=>
 rI (u3 4) w λx13=>
 n3 [x13] w)
 (R x7 w)
theorem F180_call {a0 w R} (h:F180 a0 w R):cL 180 [a0] w R:=co (g:=(kf [] [(3,4194064,[4])] [])) Tryz.func180 h
def F41 (a0:Value) (w:World) (R:VW):Prop:=
 rN 24 3 a0 w λx6=>
 oP (Instr.makeSlice 30 x6 x6) w λx7 w=>
 LOOPI [4] [(iV 0)] w λu3 w n3=>
 rN 24 3 a0 w λx10=>
 rC (u3 4) x10 w λx11=>
 BR x11
 (rX 24 a0 (u3 4) w λx18=>
 rL 95 x18 w λx19=>
 cL 76 [x19] w λx20 w=>
 rX 30 x7 (u3 4) w λx21=>
 oS 111 x21 x20 w λw=>
 rI (u3 4) w λx13=>
 n3 [x13] w)
 (R x7 w)
theorem F41_call {a0 w R} (h:F41 a0 w R):cL 41 [a0] w R:=co (g:=(kf [] [(3,4194064,[4])] [])) Tryz.func41 h
def zvl (l:List ByteArray):Nat:=l.length+sm ByteArray.size l
mutual
def wT:DTerm→Nat
  | .mk _ _ s ks=>s.size+wTs ks
def wTs:List DTerm→Nat
  | []=>0
  | t :: r=>1+wT t+wTs r
end
theorem zrE (l:List DTerm):wTs l=l.length+sm wT l:=by
 induction l with
 | nil=>simp [wTs,sm]
 | cons t l ih=>rw [wTs,ih];simp [sm];omega
theorem ztF (t:DTerm):wT t=t.name.size+wTs t.kids:=by cases t;rw [wT];rfl
def zuE (l:List DIns):Nat:=l.length+sm (λi=>wT i.term) l
def zlo (c:DCode):Nat:=zvl c.globals+zvl c.locks+zvl c.procs+c.entry.length+zuE c.ins
def F32 (a0 a1:Value) (w:World) (R:VW):Prop:=
 rN 22 3 a0 w λx8=>
 rB .sub 3 T0 T0 a1 x8 w λx9=>
 rB .lss 3 T0 U0 x9 (iV 0) w λx11=>
 BR x11
 (R (iV (-1)) w)
 (LOOPI [1,5] [x9,(iV 0)] w λu5 w n5=>
 rN 22 3 a0 w λx14=>
 rC (u5 5) x14 w λx15=>
 BR x15
 (rX 22 a0 (u5 5) w λx21=>
 rL 9 x21 w λx22=>
 rN 9 3 x22 w λx23=>
 rB .sub 3 T0 T0 (u5 1) x23 w λx24=>
 rB .lss 3 T0 U0 x24 (iV 0) w λx26=>
 BR x26
 (R (iV (-1)) w)
 (rI (u5 5) w λx17=>
 n5 [x24,x17] w))
 (R (u5 1) w))
theorem F32_call {a0 a1 w R} (h:F32 a0 a1 w R):cL 32 [a0,a1] w R:=co (g:=(kf [] [(5,134213682,[1,5])] [])) Tryz.func32 h
theorem zfH {w:World} {v0:Value} {W0:World} {l:(List ByteArray)} {left:Int}  (h0:Is W0 v0 l) (e0:Ext W0 w) (hl0:-1≤left) (hl1:left≤1048576) :
   CALL tp 32 [v0,.int .i64 left] w λr w'=>Ext w w'∧(∃ n:Int,r=.int .i64 n∧-1≤n∧n≤left∧(0≤n→n+zvl l≤left)):=by
 refine F32_call ?_;unfold F32;have hl:=zah h0;have hln8:=zah h0;refine zae u22 h0 ?_;refine zbd (by unfold I64;omega) ?_;refine zag ?_;refine br (λc1=>?_) (λc1=>?_)
 · refine ⟨Ext.refl w,?_⟩
   exact ⟨-1,rfl,by omega,by omega,by omega⟩
 refine zam (l.length) (λk us w'=>∃ q:Int,us=[.int .i64 q,.int .i64 (k:Int)]∧Ext w w'∧(0≤q∧q+l.length+sm ByteArray.size (l.take k)=left)) (0) (by omega) ⟨left-l.length,by simp,Ext.refl w,by omega,by simp [sm]⟩ ?_;rintro k m5 uu5 w1_ hk5 ⟨q,hu,η1,hq0,hq1⟩;obtain ⟨hu0,hu1⟩:=zbL hu;try rw [hu0]
 try rw [hu1]
 try clear hu0 hu1
 have hln14:=zah h0;refine zae u22 h0 ?_;refine zag ?_;refine br (λc2=>?_) (λc2=>?_)
 · refine zac u22 ty9 h0 (by omega) λb21 o21 h21=>?_
   refine zaS ty9 h21 (e0.t η1) λhS22=>?_;refine zfu u9 ?_;rw [zan] at hS22;refine zbd (by unfold I64;omega) ?_;refine zag ?_;refine br (λc3=>?_) (λc3=>?_)
   · refine ⟨η1,?_⟩
     exact ⟨-1,rfl,by omega,by omega,by omega⟩
   refine zas ?_;refine ⟨m5-1,by omega,k+1,by omega,_,rfl,η1,?_⟩;refine ⟨by omega,?_⟩;rw [zhB _ (by omega)];omega
 refine ⟨η1,?_⟩;rw [List.take_of_length_le (by omega)] at hq1;exact ⟨q,rfl,by omega,by omega,λ_=>by unfold zvl;omega⟩
def zuF (t:DTerm):Prop:=∀ {w W:World} {v:Value} {left:Int},Is W v t→Ext W w→-1≤left→left≤1048576 →
 CALL tp 120 [v,.int .i64 left] w λr w'=>Ext w w'∧∃ n:Int,r=.int .i64 n∧-1≤n∧n≤left∧(0≤n→n+wT t≤left)
def zvm (t:List DTerm):Prop:=∀ {w W:World} {v:Value} {left:Int},Is W v t→Ext W w→-1≤left→left≤1048576 →
 CALL tp 172 [v,.int .i64 left] w λr w'=>Ext w w'∧∃ n:Int,r=.int .i64 n∧-1≤n∧n≤left∧(0≤n→n+wTs t≤left)
def F172 (a0 a1:Value) (w:World) (R:VW):Prop:=
 rN 91 3 a0 w λx8=>
 rB .sub 3 T0 T0 a1 x8 w λx9=>
 rB .lss 3 T0 U0 x9 (iV 0) w λx11=>
 BR x11
 (R (iV (-1)) w)
 (LOOPI [1,5] [x9,(iV 0)] w λu5 w n5=>
 rN 91 3 a0 w λx14=>
 rC (u5 5) x14 w λx15=>
 BR x15
 (rX 91 a0 (u5 5) w λx20=>
 rL 93 x20 w λx21=>
 cL 120 [x21,(u5 1)] w λx23 w=>
 rB .lss 3 T0 U0 x23 (iV 0) w λx25=>
 BR x25
 (R (iV (-1)) w)
 (rI (u5 5) w λx17=>
 n5 [x23,x17] w))
 (R (u5 1) w))
theorem F172_call {a0 a1 w R} (h:F172 a0 a1 w R):cL 172 [a0,a1] w R:=co (g:=(kf [] [(5,67104818,[1,5])] [])) Tryz.func172 h
theorem zmJ {w:World} {v0:Value} {W0:World} {l:(List DTerm)} {left:Int}  (h0:Is W0 v0 l) (e0:Ext W0 w) (ih:∀ t∈l,zuF t) (hl0:-1≤left) (hl1:left≤1048576) :
   CALL tp 172 [v0,.int .i64 left] w λr w'=>Ext w w'∧(∃ n:Int,r=.int .i64 n∧-1≤n∧n≤left∧(0≤n→n+wTs l≤left)):=by
 refine F172_call ?_;unfold F172;have hl:=zah h0;have hln8:=zah h0;refine zae u91 h0 ?_;refine zbd (by unfold I64;omega) ?_;refine zag ?_;refine br (λc1=>?_) (λc1=>?_)
 · refine ⟨Ext.refl w,?_⟩
   exact ⟨-1,rfl,by omega,by omega,by omega⟩
 refine zam (l.length) (λk us w'=>∃ q:Int,us=[.int .i64 q,.int .i64 (k:Int)]∧Ext w w'∧(0≤q∧q+l.length+sm wT (l.take k)≤left)) (0) (by omega) ⟨left-l.length,by simp,Ext.refl w,by omega,by simp [sm]⟩ ?_;rintro k m5 uu5 w1_ hk5 ⟨q,hu,η1,hq0,hq1⟩;obtain ⟨hu0,hu1⟩:=zbL hu;try rw [hu0]
 try rw [hu1]
 try clear hu0 hu1
 have hln14:=zah h0;refine zae u91 h0 ?_;refine zag ?_;refine br (λc2=>?_) (λc2=>?_)
 · refine zac u91 zuw h0 (by omega) λb20 o20 h20=>?_
   refine zaa zuw h20 (e0.t η1) λv21 h21=>?_;refine (ih _ (List.getElem_mem _) h21 (e0.t η1) (by omega) (by omega)).mono ?_;rintro _ w2_ ⟨η2,n23,rfl,hn23⟩;refine zag ?_;refine br (λc3=>?_) (λc3=>?_)
   · refine ⟨(η1.t η2),?_⟩
     exact ⟨-1,rfl,by omega,by omega,by omega⟩
   refine zas ?_;refine ⟨m5-1,by omega,k+1,by omega,_,rfl,(η1.t η2),?_⟩;refine ⟨by omega,?_⟩;rw [zhB _ (by omega)];have:=hn23.2.2 (by omega);omega
 refine ⟨η1,?_⟩;rw [List.take_of_length_le (by omega)] at hq1;exact ⟨q,rfl,by omega,by omega,λ_=>by rw [zrE];omega⟩
def F120 (a0 a1:Value) (w:World) (R:VW):Prop:=
 oX 93 a0 w λx2 w=>
 rF 93 x2 2 w λx6=>
 rL 9 x6 w λx7=>
 rN 9 3 x7 w λx8=>
 rB .sub 3 T0 T0 a1 x8 w λx9=>
 rB .lss 3 T0 U0 x9 (iV 0) w λx11=>
 BR x11
 (R (iV (-1)) w)
 (rF 93 x2 3 w λx12=>
 rL 91 x12 w λx13=>
 cL 172 [x13,x9] w λx15 w=>
 rB .lss 3 T0 U0 x15 (iV 0) w λx17=>
 BR x17
 (R (iV (-1)) w)
 (R x15 w))
theorem F120_call {a0 a1 w R} (h:F120 a0 a1 w R):cL 120 [a0,a1] w R:=co (g:=(kf [] [] [])) Tryz.func120 h
theorem znT {w:World} {v0:Value} {W0:World} {t:DTerm} {left:Int}  (h0:Is W0 v0 t) (e0:Ext W0 w) (ih:zvm t.kids) (hl0:-1≤left) (hl1:left≤1048576) :
   CALL tp 120 [v0,.int .i64 left] w λr w'=>Ext w w'∧(∃ n:Int,r=.int .i64 n∧-1≤n∧n≤left∧(0≤n→n+wT t≤left)):=by
 refine F120_call ?_;unfold F120;refine zar zuw rfl h0 e0 λw1_ η1 hA2 hV2=>?_;refine zab zux ?_;refine zaS ty9 (zbl hA2) (Ext.refl w1_) λhS7=>?_;refine zfu u9 ?_;rw [zan] at hS7;refine zbd (by unfold I64;omega) ?_;refine zag ?_;refine br (λc1=>?_) (λc1=>?_)
 · refine ⟨η1,?_⟩
   exact ⟨-1,rfl,by omega,by omega,by omega⟩
 refine zab zuy ?_;refine zaa zw8 (zaU hA2) (Ext.refl w1_) λv13 h13=>?_;refine (ih h13 (Ext.refl w1_) (by omega) (by omega)).mono ?_;rintro _ w2_ ⟨η2,n15,rfl,hn15⟩;refine zag ?_;refine br (λc2=>?_) (λc2=>?_)
 · refine ⟨(η1.t η2),?_⟩
   exact ⟨-1,rfl,by omega,by omega,by omega⟩
 refine ⟨(η1.t η2),?_⟩;refine ⟨n15,rfl,by omega,by omega,λh=>?_⟩;have:=hn15.2.2 (by omega);rw [ztF];omega
theorem zrF (t:DTerm):zuF t:=DTerm.ind (λt ih {w W v left} h e h0 h1=>znT h e (λ{w W v left} h e h0 h1=>zmJ h e ih h0 h1) h0 h1) t
def F69 (a0 a1:Value) (w:World) (R:VW):Prop:=
 oX 95 a0 w λx2 w=>
 rF 95 x2 2 w λx5=>
 rL 93 x5 w λx6=>
 cL 120 [x6,a1] w λx8 w=>
 rB .lss 3 T0 U0 x8 (iV 0) w λx10=>
 BR x10
 (R (iV (-1)) w)
 (R x8 w)
theorem F69_call {a0 a1 w R} (h:F69 a0 a1 w R):cL 69 [a0,a1] w R:=co (g:=(kf [] [] [])) Tryz.func69 h
theorem ztG {w:World} {v0:Value} {W0:World} {i:DIns} {left:Int}  (h0:Is W0 v0 i) (e0:Ext W0 w) (hl0:-1≤left) (hl1:left≤1048576) :
   CALL tp 69 [v0,.int .i64 left] w λr w'=>Ext w w'∧(∃ n:Int,r=.int .i64 n∧-1≤n∧n≤left∧(0≤n→n+wT i.term≤left)):=by
 refine F69_call ?_;unfold F69;refine zar zv3 rfl h0 e0 λw1_ η1 hA2 hV2=>?_;refine zab zuz ?_;refine zaa zuw (zbG hA2) (Ext.refl w1_) λv6 h6=>?_;refine ((zrF _) h6 (Ext.refl w1_) (by omega) (by omega)).mono ?_;rintro _ w2_ ⟨η2,n8,rfl,hn8⟩;refine zag ?_;refine br (λc1=>?_) (λc1=>?_)
 · refine ⟨(η1.t η2),?_⟩
   exact ⟨-1,rfl,by omega,by omega,by omega⟩
 refine ⟨(η1.t η2),?_⟩;exact ⟨n8,rfl,by omega,by omega,hn8.2.2⟩
def F34 (a0 a1:Value) (w:World) (R:VW):Prop:=
 rN 24 3 a0 w λx8=>
 rB .sub 3 T0 T0 a1 x8 w λx9=>
 rB .lss 3 T0 U0 x9 (iV 0) w λx11=>
 BR x11
 (R (iV (-1)) w)
 (LOOPI [1,5] [x9,(iV 0)] w λu5 w n5=>
 rN 24 3 a0 w λx14=>
 rC (u5 5) x14 w λx15=>
 BR x15
 (rX 24 a0 (u5 5) w λx20=>
 rL 95 x20 w λx21=>
 cL 69 [x21,(u5 1)] w λx23 w=>
 rB .lss 3 T0 U0 x23 (iV 0) w λx25=>
 BR x25
 (R (iV (-1)) w)
 (rI (u5 5) w λx17=>
 n5 [x23,x17] w))
 (R (u5 1) w))
theorem F34_call {a0 a1 w R} (h:F34 a0 a1 w R):cL 34 [a0,a1] w R:=co (g:=(kf [] [(5,67104818,[1,5])] [])) Tryz.func34 h
theorem zrG {w:World} {v0:Value} {W0:World} {l:(List DIns)} {left:Int}  (h0:Is W0 v0 l) (e0:Ext W0 w) (hl0:-1≤left) (hl1:left≤1048576) :
   CALL tp 34 [v0,.int .i64 left] w λr w'=>Ext w w'∧(∃ n:Int,r=.int .i64 n∧-1≤n∧n≤left∧(0≤n→n+zuE l≤left)):=by
 refine F34_call ?_;unfold F34;have hl:=zah h0;have hln8:=zah h0;refine zae u24 h0 ?_;refine zbd (by unfold I64;omega) ?_;refine zag ?_;refine br (λc1=>?_) (λc1=>?_)
 · refine ⟨Ext.refl w,?_⟩
   exact ⟨-1,rfl,by omega,by omega,by omega⟩
 refine zam (l.length) (λk us w'=>∃ q:Int,us=[.int .i64 q,.int .i64 (k:Int)]∧Ext w w'∧(0≤q∧q+l.length+sm (λi=>wT i.term) (l.take k)≤left)) (0) (by omega) ⟨left-l.length,by simp,Ext.refl w,by omega,by simp [sm]⟩ ?_;rintro k m5 uu5 w1_ hk5 ⟨q,hu,η1,hq0,hq1⟩;obtain ⟨hu0,hu1⟩:=zbL hu;try rw [hu0]
 try rw [hu1]
 try clear hu0 hu1
 have hln14:=zah h0;refine zae u24 h0 ?_;refine zag ?_;refine br (λc2=>?_) (λc2=>?_)
 · refine zac u24 zv3 h0 (by omega) λb20 o20 h20=>?_
   refine zaa zv3 h20 (e0.t η1) λv21 h21=>?_;refine (ztG h21 (e0.t η1) (by omega) (by omega)).mono ?_;rintro _ w2_ ⟨η2,n23,rfl,hn23⟩;refine zag ?_;refine br (λc3=>?_) (λc3=>?_)
   · refine ⟨(η1.t η2),?_⟩
     exact ⟨-1,rfl,by omega,by omega,by omega⟩
   refine zas ?_;refine ⟨m5-1,by omega,k+1,by omega,_,rfl,(η1.t η2),?_⟩;refine ⟨by omega,?_⟩;rw [zhB _ (by omega)];have:=hn23.2.2 (by omega);omega
 refine ⟨η1,?_⟩;rw [List.take_of_length_le (by omega)] at hq1;exact ⟨q,rfl,by omega,by omega,λ_=>by unfold zuE;omega⟩
def F7 (a0 a1:Value) (w:World) (R:VW):Prop:=
 oX 26 a0 w λx2 w=>
 rF 26 x2 0 w λx5=>
 rL 22 x5 w λx6=>
 cL 32 [x6,a1] w λx8 w=>
 rB .lss 3 T0 U0 x8 (iV 0) w λx10=>
 BR x10
 (R (iV (-1)) w)
 (rF 26 x2 1 w λx11=>
 rL 22 x11 w λx12=>
 cL 32 [x12,x8] w λx14 w=>
 rB .lss 3 T0 U0 x14 (iV 0) w λx16=>
 BR x16
 (R (iV (-1)) w)
 (rF 26 x2 2 w λx17=>
 rL 22 x17 w λx18=>
 cL 32 [x18,x14] w λx20 w=>
 rB .lss 3 T0 U0 x20 (iV 0) w λx22=>
 BR x22
 (R (iV (-1)) w)
 (rF 26 x2 3 w λx23=>
 rL 23 x23 w λx24=>
 cL 33 [x24,x20] w λx26 w=>
 rB .lss 3 T0 U0 x26 (iV 0) w λx28=>
 BR x28
 (R (iV (-1)) w)
 (rF 26 x2 4 w λx29=>
 rL 24 x29 w λx30=>
 cL 34 [x30,x26] w λx32 w=>
 rB .lss 3 T0 U0 x32 (iV 0) w λx34=>
 BR x34
 (R (iV (-1)) w)
 (R x32 w)))))
theorem F7_call {a0 a1 w R} (h:F7 a0 a1 w R):cL 7 [a0,a1] w R:=co (g:=(kf [] [] [])) Tryz.func7 h
theorem zrH {w:World} {v0:Value} {W0:World} {c:DCode} {left:Int}  (h0:Is W0 v0 c) (e0:Ext W0 w) (hl0:-1≤left) (hl1:left≤1048576) :
   CALL tp 7 [v0,.int .i64 left] w λr w'=>Ext w w'∧(∃ n:Int,r=.int .i64 n∧-1≤n∧n≤left∧(0≤n→n+zlo c≤left)):=by
 refine F7_call ?_;unfold F7;refine zar zwT rfl h0 e0 λw1_ η1 hA2 hV2=>?_;refine zab zuo ?_;refine zaa zb1 (za8 hA2) (Ext.refl w1_) λv6 h6=>?_;refine (zfH h6 (Ext.refl w1_) (by omega) (by omega)).mono ?_;rintro _ w2_ ⟨η2,n8,rfl,hn8⟩;refine zag ?_;refine br (λc1=>?_) (λc1=>?_)
 · refine ⟨(η1.t η2),?_⟩
   exact ⟨-1,rfl,by omega,by omega,by omega⟩
 refine zab zup ?_;refine zaa zb1 (za5 hA2) η2 λv12 h12=>?_;refine (zfH h12 η2 (by omega) (by omega)).mono ?_;rintro _ w3_ ⟨η3,n14,rfl,hn14⟩;refine zag ?_;refine br (λc2=>?_) (λc2=>?_)
 · refine ⟨(η1.t (η2.t η3)),?_⟩
   exact ⟨-1,rfl,by omega,by omega,by omega⟩
 refine zab zuq ?_;refine zaa zb1 (zau hA2) (η2.t η3) λv18 h18=>?_;refine (zfH h18 (η2.t η3) (by omega) (by omega)).mono ?_;rintro _ w4_ ⟨η4,n20,rfl,hn20⟩;refine zag ?_;refine br (λc3=>?_) (λc3=>?_)
 · refine ⟨(η1.t (η2.t (η3.t η4))),?_⟩
   exact ⟨-1,rfl,by omega,by omega,by omega⟩
 refine zab zur ?_;refine zaa za4 (zap hA2) (η2.t (η3.t η4)) λv24 h24=>?_;refine (zgV h24 (η2.t (η3.t η4)) (by omega) (by omega)).mono ?_;rintro _ w5_ ⟨η5,n26,rfl,hn26⟩;refine zag ?_;refine br (λc4=>?_) (λc4=>?_)
 · refine ⟨(η1.t (η2.t (η3.t (η4.t η5)))),?_⟩
   exact ⟨-1,rfl,by omega,by omega,by omega⟩
 refine zab zus ?_;refine zaa zw4 (zai hA2) (η2.t (η3.t (η4.t η5))) λv30 h30=>?_;refine (zrG h30 (η2.t (η3.t (η4.t η5))) (by omega) (by omega)).mono ?_;rintro _ w6_ ⟨η6,n32,rfl,hn32⟩;refine zag ?_;refine br (λc5=>?_) (λc5=>?_)
 · refine ⟨(η1.t (η2.t (η3.t (η4.t (η5.t η6))))),?_⟩
   exact ⟨-1,rfl,by omega,by omega,by omega⟩
 refine ⟨(η1.t (η2.t (η3.t (η4.t (η5.t η6))))),?_⟩;refine ⟨n32,rfl,by omega,by omega,λ_=>?_⟩;have h1:=hn8.2.2 (by omega);have h2:=hn14.2.2 (by omega);have h3:=hn20.2.2 (by omega);have h4:=hn26.2.2 (by omega);have h5:=hn32.2.2 (by omega);unfold zlo;omega
def F47 (a0 a1:Value) (w:World) (R:VW):Prop:=
 rN 22 3 a0 w λx7=>
 rN 22 3 a1 w λx9=>
 rB .neq 3 T0 T0 x7 x9 w λx10=>
 BR x10
 (R vF w)
 (LOOPI [5] [(iV 0)] w λu4 w n4=>
 rN 22 3 a0 w λx13=>
 rC (u4 5) x13 w λx14=>
 BR x14
 ((λw=>rX 22 a0 (u4 5) w λx19=>
 rL 9 x19 w λx20=>
 rX 22 a1 (u4 5) w λx23=>
 rL 9 x23 w λx24=>
 rB .neq 9 T0 T0 x20 x24 w λx25=>
 BR x25
 (R vF w)
 (rI (u4 5) w λx16=>
 n4 [x16] w)) (World.drew1 w))
 (R vT w))
theorem F47_call {a0 a1 w R} (h:F47 a0 a1 w R):cL 47 [a0,a1] w R:=co (g:=(kf [] [(4,67106864,[5])] [(6,[0,1,2,3,4,5,6,7,8],0)])) Tryz.func47 h
theorem zfI {w:World} {v0:Value} {W0:World} {l1:(List ByteArray)} {v1:Value} {W1:World} {l2:(List ByteArray)}  (h0:Is W0 v0 l1) (e0:Ext W0 w) (h1:Is W1 v1 l2) (e1:Ext W1 w)  :
   CALL tp 47 [v0,v1] w λr w'=>Ext w w'∧(r=.bool (decide (l1=l2))):=by
 refine F47_call ?_;unfold F47;have hl1:=zah h0;have hln7:=zah h0;refine zae u22 h0 ?_;have hln9:=zah h1;refine zae u22 h1 ?_;refine zaB ?_;refine br (λc1=>?_) (λc1=>?_)
 · refine ⟨Ext.refl w,?_⟩
   have:l1≠l2:=λe=>c1 (by rw [e]);simp [this]
 refine zam (l1.length) (λk us w'=>us=[.int .i64 (k:Int)]∧Ext w w'∧(l1.take k=l2.take k)) (0) (by omega) ⟨by simp,Ext.refl w,by simp⟩ ?_;rintro k m4 uu4 w1_ hk4 ⟨hu,η1,hinv⟩;try replace hu:=zbi hu
 try rw [hu]
 try clear hu
 have hln13:=zah h0;refine zae u22 h0 ?_;refine zag ?_;refine br (λc2=>?_) (λc2=>?_)
 · have η2:=zaj w1_
   refine zac u22 ty9 h0 (by omega) λb19 o19 h19=>?_;refine zaS ty9 h19 (e0.t (η1.t η2)) λhS20=>?_;refine zac u22 ty9 h1 (by omega) λb23 o23 h23=>?_;refine zaS ty9 h23 (e1.trans (η1.t η2)) λhS24=>?_;refine ziL ?_;refine br (λc3=>?_) (λc3=>?_)
   · refine ⟨(η1.t η2),?_⟩
     have:l1≠l2:=λe=>c3 (by subst e;rfl);simp [this]
   refine zas ?_;refine ⟨m4-1,by omega,k+1,by omega,by simp,(η1.t η2),?_⟩;rw [tk (by omega),tk (by omega),hinv,Decidable.not_not.1 c3]
 refine ⟨η1,?_⟩;rw [List.take_of_length_le (by omega),List.take_of_length_le (by omega)] at hinv;simp [hinv]
def zuG (t:DTerm):Prop:=∀ {w W W':World} {v v':Value} {t':DTerm},Is W v t→Ext W w→Is W' v' t'→Ext W' w →
 CALL tp 148 [v,v'] w λr w'=>Ext w w'∧r=.bool (decide (t=t'))
def zvn (t:List DTerm):Prop:=∀ {w W W':World} {v v':Value} {t':List DTerm},Is W v t→Ext W w→Is W' v' t'→Ext W' w →
 CALL tp 206 [v,v'] w λr w'=>Ext w w'∧r=.bool (decide (t=t'))
def F206 (a0 a1:Value) (w:World) (R:VW):Prop:=
 rN 107 3 a0 w λx7=>
 rN 107 3 a1 w λx9=>
 rB .neq 3 T0 T0 x7 x9 w λx10=>
 BR x10
 (R vF w)
 (LOOPI [5] [(iV 0)] w λu4 w n4=>
 rN 107 3 a0 w λx13=>
 rC (u4 5) x13 w λx14=>
 BR x14
 ((λw=>rX 107 a0 (u4 5) w λx19=>
 rL 109 x19 w λx20=>
 rX 107 a1 (u4 5) w λx23=>
 rL 109 x23 w λx24=>
 cL 148 [x20,x24] w λx25 w=>
 rT x25 w λx26=>
 BR x26
 (R vF w)
 (rI (u4 5) w λx16=>
 n4 [x16] w)) (World.drew1 w))
 (R vT w))
theorem F206_call {a0 a1 w R} (h:F206 a0 a1 w R):cL 206 [a0,a1] w R:=co (g:=(kf [] [(4,134215728,[5])] [(6,[0,1,2,3,4,5,6,7,8,9],0)])) Tryz.func206 h
theorem zmK {w:World} {v0:Value} {W0:World} {l1:(List DTerm)} {v1:Value} {W1:World} {l2:(List DTerm)}  (h0:Is W0 v0 l1) (e0:Ext W0 w) (h1:Is W1 v1 l2) (e1:Ext W1 w) (ih:∀ t∈l1,zuG t) :
   CALL tp 206 [v0,v1] w λr w'=>Ext w w'∧(r=.bool (decide (l1=l2))):=by
 refine F206_call ?_;unfold F206;have hl1:=zah h0;have hln7:=zah h0;refine zae zfp h0 ?_;have hln9:=zah h1;refine zae zfp h1 ?_;refine zaB ?_;refine br (λc1=>?_) (λc1=>?_)
 · refine ⟨Ext.refl w,?_⟩
   have:l1≠l2:=λe=>c1 (by rw [e]);simp [this]
 refine zam (l1.length) (λk us w'=>us=[.int .i64 (k:Int)]∧Ext w w'∧(l1.take k=l2.take k)) (0) (by omega) ⟨by simp,Ext.refl w,by simp⟩ ?_;rintro k m4 uu4 w1_ hk4 ⟨hu,η1,hinv⟩;try replace hu:=zbi hu
 try rw [hu]
 try clear hu
 have hln13:=zah h0;refine zae zfp h0 ?_;refine zag ?_;refine br (λc2=>?_) (λc2=>?_)
 · have η2:=zaj w1_
   refine zac zfp zbB h0 (by omega) λb19 o19 h19=>?_;refine zaa zbB h19 (e0.t (η1.t η2)) λv20 h20=>?_;refine zac zfp zbB h1 (by omega) λb23 o23 h23=>?_;refine zaa zbB h23 (e1.trans (η1.t η2)) λv24 h24=>?_;refine (ih _ (List.getElem_mem _) h20 (e0.t (η1.t η2)) h24 (e1.trans (η1.t η2))).mono ?_;rintro _ w3_ ⟨η3,rfl⟩;refine zaq ?_;refine br (λc3=>?_) (λc3=>?_)
   · refine ⟨(η1.t (η2.t η3)),?_⟩
     have:l1≠l2:=λe=>c3 (by subst e;rfl);simp [this]
   refine zas ?_;refine ⟨m4-1,by omega,k+1,by omega,by simp,(η1.t (η2.t η3)),?_⟩;rw [tk (by omega),tk (by omega),hinv,Decidable.not_not.1 c3]
 refine ⟨η1,?_⟩;rw [List.take_of_length_le (by omega),List.take_of_length_le (by omega)] at hinv;simp [hinv]
def F148 (a0 a1:Value) (w:World) (R:VW):Prop:=
 oX 109 a0 w λx2 w=>
 oX 109 a1 w λx3 w=>
 rF 109 x2 0 w λx5=>
 rL 3 x5 w λx6=>
 rF 109 x3 0 w λx7=>
 rL 3 x7 w λx8=>
 rB .neq 3 T0 T0 x6 x8 w λx9=>
 BR x9
 (R vF w)
 (rF 109 x2 1 w λx10=>
 rL 3 x10 w λx11=>
 rF 109 x3 1 w λx12=>
 rL 3 x12 w λx13=>
 rB .neq 3 T0 T0 x11 x13 w λx14=>
 BR x14
 (R vF w)
 (rF 109 x2 2 w λx15=>
 rL 9 x15 w λx16=>
 rF 109 x3 2 w λx17=>
 rL 9 x17 w λx18=>
 rB .neq 9 T0 T0 x16 x18 w λx19=>
 BR x19
 (R vF w)
 (rF 109 x2 3 w λx20=>
 rL 107 x20 w λx21=>
 rF 109 x3 3 w λx22=>
 rL 107 x22 w λx23=>
 cL 206 [x21,x23] w λx24 w=>
 rT x24 w λx25=>
 BR x25
 (R vF w)
 (R vT w))))
theorem F148_call {a0 a1 w R} (h:F148 a0 a1 w R):cL 148 [a0,a1] w R:=co (g:=(kf [] [] [])) Tryz.func148 h
theorem znU {w:World} {v0:Value} {W0:World} {t1:DTerm} {v1:Value} {W1:World} {t2:DTerm}  (h0:Is W0 v0 t1) (e0:Ext W0 w) (h1:Is W1 v1 t2) (e1:Ext W1 w) (ih:zvn t1.kids) :
   CALL tp 148 [v0,v1] w λr w'=>Ext w w'∧(r=.bool (decide (t1=t2))):=by
 refine F148_call ?_;unfold F148;refine zar zbB rfl h0 e0 λw1_ η1 hA2 hV2=>?_;refine zar zbB rfl h1 (e1.trans η1) λw2_ η2 hA3 hV3=>?_;refine zab zdj ?_;refine zad ty3 (zbU hA2) η2 λhI6=>?_;refine zab zdj ?_;refine zad ty3 (zbU hA3) (Ext.refl w2_) λhI8=>?_;refine zaB ?_;refine br (λc1=>?_) (λc1=>?_)
 · refine ⟨(η1.t η2),?_⟩
   have:t1≠t2:=λe=>c1 (by rw [e]);simp [this]
 refine zab zcX ?_;refine zad ty3 (zbK hA2) η2 λhI11=>?_;refine zab zcX ?_;refine zad ty3 (zbK hA3) (Ext.refl w2_) λhI13=>?_;refine zaB ?_;refine br (λc2=>?_) (λc2=>?_)
 · refine ⟨(η1.t η2),?_⟩
   have:t1≠t2:=λe=>c2 (by rw [e]);simp [this]
 refine zab zcA ?_;refine zaS ty9 (zbl hA2) η2 λhS16=>?_;refine zab zcA ?_;refine zaS ty9 (zbl hA3) (Ext.refl w2_) λhS18=>?_;refine ziL ?_;refine br (λc3=>?_) (λc3=>?_)
 · refine ⟨(η1.t η2),?_⟩
   have:t1≠t2:=λe=>c3 (by rw [e]);simp [this]
 refine zab zbs ?_;refine zaa zdw (zaU hA2) η2 λv21 h21=>?_;refine zab zbs ?_;refine zaa zdw (zaU hA3) (Ext.refl w2_) λv23 h23=>?_;refine (ih h21 η2 h23 (Ext.refl w2_)).mono ?_;rintro _ w3_ ⟨η3,rfl⟩;refine zaq ?_;refine br (λc4=>?_) (λc4=>?_)
 · refine ⟨(η1.t (η2.t η3)),?_⟩
   have:t1≠t2:=λe=>c4 (by rw [e]);simp [this]
 refine ⟨(η1.t (η2.t η3)),?_⟩;have:t1=t2:=DTerm.ext_iff.2 ⟨Decidable.not_not.1 c1,Decidable.not_not.1 c2,Decidable.not_not.1 c3,Decidable.not_not.1 c4⟩;simp [this]
theorem zrI (t:DTerm):zuG t:=DTerm.ind (λt ih {_ _ _ _ _ _} h e h' e'=>znU h e h' e' (λ{_ _ _ _ _ _} h e h' e'=>zmK h e h' e' ih)) t
def F91 (a0 a1:Value) (w:World) (R:VW):Prop:=
 oX 111 a0 w λx2 w=>
 oX 111 a1 w λx3 w=>
 rF 111 x2 0 w λx5=>
 rL 3 x5 w λx6=>
 rF 111 x3 0 w λx7=>
 rL 3 x7 w λx8=>
 rB .neq 3 T0 T0 x6 x8 w λx9=>
 BR x9
 (R vF w)
 (rF 111 x2 1 w λx10=>
 rL 3 x10 w λx11=>
 rF 111 x3 1 w λx12=>
 rL 3 x12 w λx13=>
 rB .neq 3 T0 T0 x11 x13 w λx14=>
 BR x14
 (R vF w)
 (rF 111 x2 2 w λx15=>
 rL 109 x15 w λx16=>
 rF 111 x3 2 w λx17=>
 rL 109 x17 w λx18=>
 cL 148 [x16,x18] w λx19 w=>
 rT x19 w λx20=>
 BR x20
 (R vF w)
 (rF 111 x2 3 w λx21=>
 rL 3 x21 w λx22=>
 rF 111 x3 3 w λx23=>
 rL 3 x23 w λx24=>
 rB .neq 3 T0 T0 x22 x24 w λx25=>
 BR x25
 (R vF w)
 (R vT w))))
theorem F91_call {a0 a1 w R} (h:F91 a0 a1 w R):cL 91 [a0,a1] w R:=co (g:=(kf [] [] [])) Tryz.func91 h
theorem ztH {w:World} {v0:Value} {W0:World} {t1:DIns} {v1:Value} {W1:World} {t2:DIns}  (h0:Is W0 v0 t1) (e0:Ext W0 w) (h1:Is W1 v1 t2) (e1:Ext W1 w)  :
   CALL tp 91 [v0,v1] w λr w'=>Ext w w'∧(r=.bool (decide (t1=t2))):=by
 refine F91_call ?_;unfold F91;refine zar zaO rfl h0 e0 λw1_ η1 hA2 hV2=>?_;refine zar zaO rfl h1 (e1.trans η1) λw2_ η2 hA3 hV3=>?_;refine zab zaM ?_;refine zad ty3 (zav hA2) η2 λhI6=>?_;refine zab zaM ?_;refine zad ty3 (zav hA3) (Ext.refl w2_) λhI8=>?_;refine zaB ?_;refine br (λc1=>?_) (λc1=>?_)
 · refine ⟨(η1.t η2),?_⟩
   have:t1≠t2:=λe=>c1 (by rw [e]);simp [this]
 refine zab zaK ?_;refine zad ty3 (zat hA2) η2 λhI11=>?_;refine zab zaK ?_;refine zad ty3 (zat hA3) (Ext.refl w2_) λhI13=>?_;refine zaB ?_;refine br (λc2=>?_) (λc2=>?_)
 · refine ⟨(η1.t η2),?_⟩
   have:t1≠t2:=λe=>c2 (by rw [e]);simp [this]
 refine zab zcf ?_;refine zaa zbB (zbG hA2) η2 λv16 h16=>?_;refine zab zcf ?_;refine zaa zbB (zbG hA3) (Ext.refl w2_) λv18 h18=>?_;refine ((zrI _) h16 η2 h18 (Ext.refl w2_)).mono ?_;rintro _ w3_ ⟨η3,rfl⟩;refine zaq ?_;refine br (λc3=>?_) (λc3=>?_)
 · refine ⟨(η1.t (η2.t η3)),?_⟩
   have:t1≠t2:=λe=>c3 (by rw [e]);simp [this]
 refine zab zcB ?_;refine zad ty3 (zbH hA2) (η2.t η3) λhI22=>?_;refine zab zcB ?_;refine zad ty3 (zbH hA3) η3 λhI24=>?_;refine zaB ?_;refine br (λc4=>?_) (λc4=>?_)
 · refine ⟨(η1.t (η2.t η3)),?_⟩
   have:t1≠t2:=λe=>c4 (by rw [e]);simp [this]
 refine ⟨(η1.t (η2.t η3)),?_⟩;have:t1=t2:=DIns.ext_iff.2 ⟨Decidable.not_not.1 c1,Decidable.not_not.1 c2,Decidable.not_not.1 c3,Decidable.not_not.1 c4⟩;simp [this]
def F48 (a0 a1:Value) (w:World) (R:VW):Prop:=
 rN 30 3 a0 w λx7=>
 rN 30 3 a1 w λx9=>
 rB .neq 3 T0 T0 x7 x9 w λx10=>
 BR x10
 (R vF w)
 (LOOPI [5] [(iV 0)] w λu4 w n4=>
 rN 30 3 a0 w λx13=>
 rC (u4 5) x13 w λx14=>
 BR x14
 ((λw=>rX 30 a0 (u4 5) w λx19=>
 rL 111 x19 w λx20=>
 rX 30 a1 (u4 5) w λx23=>
 rL 111 x23 w λx24=>
 cL 91 [x20,x24] w λx25 w=>
 rT x25 w λx26=>
 BR x26
 (R vF w)
 (rI (u4 5) w λx16=>
 n4 [x16] w)) (World.drew1 w))
 (R vT w))
theorem F48_call {a0 a1 w R} (h:F48 a0 a1 w R):cL 48 [a0,a1] w R:=co (g:=(kf [] [(4,134215728,[5])] [(6,[0,1,2,3,4,5,6,7,8,9],0)])) Tryz.func48 h
theorem zrJ {w:World} {v0:Value} {W0:World} {l1:(List DIns)} {v1:Value} {W1:World} {l2:(List DIns)}  (h0:Is W0 v0 l1) (e0:Ext W0 w) (h1:Is W1 v1 l2) (e1:Ext W1 w)  :
   CALL tp 48 [v0,v1] w λr w'=>Ext w w'∧(r=.bool (decide (l1=l2))):=by
 refine F48_call ?_;unfold F48;have hl1:=zah h0;have hln7:=zah h0;refine zae u30 h0 ?_;have hln9:=zah h1;refine zae u30 h1 ?_;refine zaB ?_;refine br (λc1=>?_) (λc1=>?_)
 · refine ⟨Ext.refl w,?_⟩
   have:l1≠l2:=λe=>c1 (by rw [e]);simp [this]
 refine zam (l1.length) (λk us w'=>us=[.int .i64 (k:Int)]∧Ext w w'∧(l1.take k=l2.take k)) (0) (by omega) ⟨by simp,Ext.refl w,by simp⟩ ?_;rintro k m4 uu4 w1_ hk4 ⟨hu,η1,hinv⟩;try replace hu:=zbi hu
 try rw [hu]
 try clear hu
 have hln13:=zah h0;refine zae u30 h0 ?_;refine zag ?_;refine br (λc2=>?_) (λc2=>?_)
 · have η2:=zaj w1_
   refine zac u30 zaO h0 (by omega) λb19 o19 h19=>?_;refine zaa zaO h19 (e0.t (η1.t η2)) λv20 h20=>?_;refine zac u30 zaO h1 (by omega) λb23 o23 h23=>?_;refine zaa zaO h23 (e1.trans (η1.t η2)) λv24 h24=>?_;refine (ztH h20 (e0.t (η1.t η2)) h24 (e1.trans (η1.t η2))).mono ?_;rintro _ w3_ ⟨η3,rfl⟩;refine zaq ?_;refine br (λc3=>?_) (λc3=>?_)
   · refine ⟨(η1.t (η2.t η3)),?_⟩
     have:l1≠l2:=λe=>c3 (by subst e;rfl);simp [this]
   refine zas ?_;refine ⟨m4-1,by omega,k+1,by omega,by simp,(η1.t (η2.t η3)),?_⟩;rw [tk (by omega),tk (by omega),hinv,Decidable.not_not.1 c3]
 refine ⟨η1,?_⟩;rw [List.take_of_length_le (by omega),List.take_of_length_le (by omega)] at hinv;simp [hinv]
def F12 (a0 a1:Value) (w:World) (R:VW):Prop:=
 oX 32 a0 w λx2 w=>
 oX 32 a1 w λx3 w=>
 rF 32 x2 0 w λx5=>
 rL 22 x5 w λx6=>
 rF 32 x3 0 w λx7=>
 rL 22 x7 w λx8=>
 cL 47 [x6,x8] w λx9 w=>
 rT x9 w λx10=>
 BR x10
 (R vF w)
 (rF 32 x2 1 w λx11=>
 rL 22 x11 w λx12=>
 rF 32 x3 1 w λx13=>
 rL 22 x13 w λx14=>
 cL 47 [x12,x14] w λx15 w=>
 rT x15 w λx16=>
 BR x16
 (R vF w)
 (rF 32 x2 2 w λx17=>
 rL 22 x17 w λx18=>
 rF 32 x3 2 w λx19=>
 rL 22 x19 w λx20=>
 cL 47 [x18,x20] w λx21 w=>
 rT x21 w λx22=>
 BR x22
 (R vF w)
 (rF 32 x2 3 w λx23=>
 rL 23 x23 w λx24=>
 rF 32 x3 3 w λx25=>
 rL 23 x25 w λx26=>
 cL 11 [x24,x26] w λx27 w=>
 rT x27 w λx28=>
 BR x28
 (R vF w)
 (rF 32 x2 4 w λx29=>
 rL 30 x29 w λx30=>
 rF 32 x3 4 w λx31=>
 rL 30 x31 w λx32=>
 cL 48 [x30,x32] w λx33 w=>
 rT x33 w λx34=>
 BR x34
 (R vF w)
 (R vT w)))))
theorem F12_call {a0 a1 w R} (h:F12 a0 a1 w R):cL 12 [a0,a1] w R:=co (g:=(kf [] [] [])) Tryz.func12 h
theorem zrK {w:World} {v0:Value} {W0:World} {t1:DCode} {v1:Value} {W1:World} {t2:DCode}  (h0:Is W0 v0 t1) (e0:Ext W0 w) (h1:Is W1 v1 t2) (e1:Ext W1 w)  :
   CALL tp 12 [v0,v1] w λr w'=>Ext w w'∧(r=.bool (decide (t1=t2))):=by
 refine F12_call ?_;unfold F12;refine zar zbq rfl h0 e0 λw1_ η1 hA2 hV2=>?_;refine zar zbq rfl h1 (e1.trans η1) λw2_ η2 hA3 hV3=>?_;refine zab zdi ?_;refine zaa zb1 (za8 hA2) η2 λv6 h6=>?_;refine zab zdi ?_;refine zaa zb1 (za8 hA3) (Ext.refl w2_) λv8 h8=>?_;refine (zfI h6 η2 h8 (Ext.refl w2_)).mono ?_;rintro _ w3_ ⟨η3,rfl⟩;refine zaq ?_;refine br (λc1=>?_) (λc1=>?_)
 · refine ⟨(η1.t (η2.t η3)),?_⟩
   have:t1≠t2:=λe=>c1 (by rw [e]);simp [this]
 refine zab zc5 ?_;refine zaa zb1 (za5 hA2) (η2.t η3) λv12 h12=>?_;refine zab zc5 ?_;refine zaa zb1 (za5 hA3) η3 λv14 h14=>?_;refine (zfI h12 (η2.t η3) h14 η3).mono ?_;rintro _ w4_ ⟨η4,rfl⟩;refine zaq ?_;refine br (λc2=>?_) (λc2=>?_)
 · refine ⟨(η1.t (η2.t (η3.t η4))),?_⟩
   have:t1≠t2:=λe=>c2 (by rw [e]);simp [this]
 refine zab zbf ?_;refine zaa zb1 (zau hA2) (η2.t (η3.t η4)) λv18 h18=>?_;refine zab zbf ?_;refine zaa zb1 (zau hA3) (η3.t η4) λv20 h20=>?_;refine (zfI h18 (η2.t (η3.t η4)) h20 (η3.t η4)).mono ?_;rintro _ w5_ ⟨η5,rfl⟩;refine zaq ?_;refine br (λc3=>?_) (λc3=>?_)
 · refine ⟨(η1.t (η2.t (η3.t (η4.t η5)))),?_⟩
   have:t1≠t2:=λe=>c3 (by rw [e]);simp [this]
 refine zab za6 ?_;refine zaa za4 (zap hA2) (η2.t (η3.t (η4.t η5))) λv24 h24=>?_;refine zab za6 ?_;refine zaa za4 (zap hA3) (η3.t (η4.t η5)) λv26 h26=>?_;refine (zdz h24 (η2.t (η3.t (η4.t η5))) h26 (η3.t (η4.t η5))).mono ?_;rintro _ w6_ ⟨η6,rfl⟩;refine zaq ?_;refine br (λc4=>?_) (λc4=>?_)
 · refine ⟨(η1.t (η2.t (η3.t (η4.t (η5.t η6))))),?_⟩
   have:t1≠t2:=λe=>c4 (by rw [e]);simp [this]
 refine zab zaD ?_;refine zaa zcu (zai hA2) (η2.t (η3.t (η4.t (η5.t η6)))) λv30 h30=>?_;refine zab zaD ?_;refine zaa zcu (zai hA3) (η3.t (η4.t (η5.t η6))) λv32 h32=>?_;refine (zrJ h30 (η2.t (η3.t (η4.t (η5.t η6)))) h32 (η3.t (η4.t (η5.t η6)))).mono ?_;rintro _ w7_ ⟨η7,rfl⟩;refine zaq ?_;refine br (λc5=>?_) (λc5=>?_)
 · refine ⟨(η1.t (η2.t (η3.t (η4.t (η5.t (η6.t η7)))))),?_⟩
   have:t1≠t2:=λe=>c5 (by rw [e]);simp [this]
 refine ⟨(η1.t (η2.t (η3.t (η4.t (η5.t (η6.t η7)))))),?_⟩;have:t1=t2:=DCode.ext_iff.2 ⟨Decidable.not_not.1 c1,Decidable.not_not.1 c2,Decidable.not_not.1 c3,Decidable.not_not.1 c4,Decidable.not_not.1 c5⟩;simp [this]
theorem zfJ {w:World} {v:Value} {l:List ByteArray} (h:Is w v l) (hn:l.length≤1048576) :
   CALL tp 39 [v] w λr w'=>Ext w w'∧Own w.heap.size w' r l:=by
 refine F39_call ?_;unfold F39;refine zae u22 h ?_;refine ziM (α:=ByteArray) u22 ty9 z9 (by omega) (by omega) λw1 hx1 hf=>?_;refine zam l.length (λk us w'=>us=[.int .i64 (k:Int)]∧Ext w w'∧Fill w.heap.size 9 l.length [] w' (l.take k)) 0 (z0 _) ⟨rfl,hx1,by simpa using hf⟩ ?_;rintro k m u w2 hkm ⟨hu,hx2,hf2⟩;try replace hu:=zbi hu
 rw [hu];refine zae u22 h ?_;refine zag ?_;refine br (λhlt=>?_) (λhge=>?_)
 · have hk:k<l.length:=by omega
   refine zac u22 ty9 h hk λb o hA=>?_;refine zaS ty9 hA hx2 λhI=>?_;refine zdh u22 ty9 hk ?_;refine zgM (α:=ByteArray) ty9 hf2 (by simp [Rep.size];omega) (by simp;omega) (⟨⟨_,⟨rfl,rfl,hI⟩,rfl⟩,List.nodup_nil,Wr.nil _⟩:Mine [] w2 _ l[k]) (by simp) λw3 hc3 hf3=>?_;refine ziK (by have:=zah h;omega) ?_;refine ⟨m-1,by omega,k+1,by omega,rfl,hx2.chg_trans hc3 (by simp),?_⟩;rw [tk hk];simpa using hf3
 have hk:k=l.length:=by omega
 subst hk;rw [List.take_length] at hf2;exact ⟨hx2,_,hf2.own rfl (by rw [zan];omega),by simp⟩
def zuH (t:DTerm):Prop:=∀ {w:World} {v:Value},Is w v t→wT t≤1048576 →
 CALL tp 131 [v] w λr w'=>Ext w w'∧Own w.heap.size w' r t
def zvo (l:List DTerm):Prop:=∀ {w:World} {v:Value},Is w v l→wTs l≤1048576 →
 CALL tp 180 [v] w λr w'=>Ext w w'∧Own w.heap.size w' r l
theorem zky {α:Type} [Rep α] {g e n lo:Nat} {Fi F1:List Nat} {w w':World} {l:List α} {v:Value} {x:α} (hf:Fill g e n Fi w l) (hm:Mine F1 w' v x) (hl:∀ b∈F1,w.heap.size≤b):(F1++(g :: Fi)).Nodup:=by
 rw [List.nodup_append];refine ⟨hm.nodup,by obtain ⟨_,_,_,_,_,hn,_⟩:=hf;exact hn,λa ha c hc e=>?_⟩;subst e;have:=hl a ha;have:=hf.lt a hc;omega
theorem zmL {w:World} {v:Value} {l:List DTerm} (ih:∀ t∈l,zuH t) (h:Is w v l) (hn:wTs l≤1048576) :
   CALL tp 180 [v] w λr w'=>Ext w w'∧Own w.heap.size w' r l:=by
 rw [zrE] at hn;refine F180_call ?_;unfold F180;refine zae u91 h ?_;refine ziM (α:=DTerm) zfp zbB zxn (by omega) (by omega) λw1 hx1 hf=>?_;refine zam l.length (λk us w'=>us=[.int .i64 (k:Int)]∧Ext w w'∧∃ Fi,Fill w.heap.size 109 l.length Fi w' (l.take k)∧∀ b∈Fi,w.heap.size≤b) 0 (z0 _) ⟨rfl,hx1,[],by simpa using hf,by simp⟩ ?_;rintro k m u w2 hkm ⟨hu,hx2,Fi,hf2,hFl⟩;try replace hu:=zbi hu
 rw [hu];refine zae u91 h ?_;refine zag ?_;refine br (λhlt=>?_) (λhge=>?_)
 · have hk:k<l.length:=by omega
   refine zac u91 zuw h hk λb o hA=>?_;refine zaa zuw hA hx2 λv19 h19=>?_;refine (ih _ (List.getElem_mem hk) (h19.ext hx2) (by have:=zuA wT (List.getElem_mem hk);omega)).mono ?_;rintro r20 w3 ⟨hx3,F20,hm20,hl20⟩;refine zdh zfp zbB hk ?_;refine zgM (α:=DTerm) zbB (hf2.ext hx3) (by simp [Rep.size];omega) (by simp;omega) hm20 (zky (lo:=0) hf2 hm20 hl20) λw4 hc4 hf4=>?_;refine ziK (by have:=zah h;omega) ?_;refine ⟨m-1,by omega,k+1,by omega,rfl,(hx2.t hx3).chg_trans hc4 (by simp),Fi++F20,?_,?_⟩
   · rw [tk hk]
     exact hf4
   intro b hb;rcases List.mem_append.1 hb with hb | hb
   · exact hFl b hb
   exact Nat.le_trans hx2.size (hl20 b hb)
 have hk:k=l.length:=by omega
 subst hk;rw [List.take_length] at hf2;exact ⟨hx2,_,hf2.own rfl (by rw [zan];omega),by simpa using hFl⟩
def F131 (a0:Value) (w:World) (R:VW):Prop:=
 oX 93 a0 w λx1 w=>
 oP (aL 109) w λx2 w=>
 oP (aL 109) w λx3 w=>
 rF 93 x1 0 w λx4=>
 rL 3 x4 w λx5=>
 rF 109 x3 0 w λx6=>
 oS 3 x6 x5 w λw=>
 rF 93 x1 1 w λx7=>
 rL 3 x7 w λx8=>
 rF 109 x3 1 w λx9=>
 oS 3 x9 x8 w λw=>
 rF 93 x1 2 w λx10=>
 rL 9 x10 w λx11=>
 rF 109 x3 2 w λx12=>
 oS 9 x12 x11 w λw=>
 rF 93 x1 3 w λx13=>
 rL 91 x13 w λx14=>
 cL 180 [x14] w λx15 w=>
 rF 109 x3 3 w λx16=>
 oS 107 x16 x15 w λw=>
 rL 109 x3 w λx17=>
 oS 109 x2 x17 w λw=>
 rD (zea 109 x2) w λr2=>R r2 w
theorem F131_call {a0 w R} (h:F131 a0 w R):cL 131 [a0] w R:=co (g:=(kf [] [] [])) Tryz.func131 h
theorem znV {w:World} {v0:Value} {W0:World} {t:DTerm}  (h0:Is W0 v0 t) (e0:Ext W0 w) (ih:zvo t.kids) (hn:wT t≤1048576) :
   CALL tp 131 [v0] w λr w'=>Ext w w'∧(Own w.heap.size w' r t):=by
 refine F131_call ?_;unfold F131;have hn':wTs t.kids≤1048576:=by rw [ztF] at hn;omega
 have σe0:=e0.size;refine zar zuw rfl h0 e0 λw1_ η1 hA1 hV1=>?_;have σ1:=η1.size;refine zeD (α:=DTerm) zrg λw2_ η2 hv2=>?_;have hg2:=hv2.lt;have σ2:=η2.size;refine zeD (α:=DTerm) zrg λw3_ η3 hv3=>?_;have hg3:=hv3.lt;have σ3:=η3.size;refine zab zwj ?_;refine zad ty3 (zbU hA1) (η2.t η3) λhI5=>?_;refine zab zdj ?_;obtain ⟨Fv4,hO4,hF4⟩:=(hv3.ext (Ext.refl w3_));obtain ⟨Gv4,hL4⟩:=zfC (Lens.var hO4);refine zcH ty3 hL4 hF4 (ownI_int (lo:=w3_.heap.size) (hi:=w3_.heap.size) (by first | assumption | (unfold I64 at *;omega))) (by omega) (by omega) λw4_ hc4_ hv4_=>?_;have hv3_s4:=hv4_ (w3_.heap.size) (by omega) (by omega) (w3_.heap.size) (by omega) (by omega);clear hv4_ hL4 hO4 hF4;have σhc4_:=hc4_.size;have hv2_c4:=(hv2.ext η3).chg hc4_ (by omega) (by omega);refine zab zwk ?_;refine zad ty3 (zbK hA1) (Ext.chgI (η2.t η3) hc4_ (by omega)) λhI8=>?_;refine zab zcX ?_;obtain ⟨Fv5,hO5,hF5⟩:=(hv3_s4.ext (Ext.refl w4_));obtain ⟨Gv5,hL5⟩:=zfD (Lens.var hO5);refine zcH ty3 hL5 hF5 (ownI_int (lo:=w4_.heap.size) (hi:=w4_.heap.size) (by first | assumption | (unfold I64 at *;omega))) (by omega) (by omega) λw5_ hc5_ hv5_=>?_;have hv3_s5:=hv5_ (w3_.heap.size) (by omega) (by omega) (w4_.heap.size) (by omega) (by omega);clear hv5_ hL5 hO5 hF5;have σhc5_:=hc5_.size;have hv2_c5:=(hv2_c4.ext (Ext.refl w4_)).chg hc5_ (by omega) (by omega);refine zab zux ?_;refine zaS ty9 (zbl hA1) (Ext.chgI (Ext.chgI (η2.t η3) hc4_ (by omega)) hc5_ (by omega)) λhS11=>?_;refine zab zcA ?_;obtain ⟨Fv6,hO6,hF6⟩:=(hv3_s5.ext (Ext.refl w5_));obtain ⟨Gv6,hL6⟩:=zfE (Lens.var hO6);refine zcH ty9 hL6 hF6 (ztk (lo:=w5_.heap.size) (hi:=w5_.heap.size) (by first | assumption | (rw [zan];omega) | (simp [zan];omega))) (by omega) (by omega) λw6_ hc6_ hv6_=>?_;have hv3_s6:=hv6_ (w3_.heap.size) (by omega) (by omega) (w5_.heap.size) (by omega) (by omega);clear hv6_ hL6 hO6 hF6;have σhc6_:=hc6_.size;have hv2_c6:=(hv2_c5.ext (Ext.refl w5_)).chg hc6_ (by omega) (by omega);refine zab zuy ?_;refine zaa zw8 (zaU hA1) (Ext.chgI (Ext.chgI (Ext.chgI (η2.t η3) hc4_ (by omega)) hc5_ (by omega)) hc6_ (by omega)) λv14 h14=>?_;refine (ih (h14.ext (Ext.chgI (Ext.chgI (Ext.chgI (η2.t η3) hc4_ (by omega)) hc5_ (by omega)) hc6_ (by omega))) (by omega)).mono ?_;rintro r15 w7_ ⟨η7,o15⟩;have o15:=o15.toI;have σ7:=η7.size;refine zab zbs ?_;obtain ⟨Fv8,hO8,hF8⟩:=(hv3_s6.ext η7);obtain ⟨Gv8,hL8⟩:=zfF (Lens.var hO8);refine zcH zdw hL8 hF8 (o15.ext (Ext.refl w7_)) (by omega) (by omega) λw8_ hc8_ hv8_=>?_;have hv3_s8:=hv8_ (w3_.heap.size) (by omega) (by omega) (w7_.heap.size) (by omega) (by omega);clear hv8_ hL8 hO8 hF8;have σhc8_:=hc8_.size;have hv2_c8:=(hv2_c6.ext η7).chg hc8_ (by omega) (by omega);have o15_c8:=(o15.ext (Ext.refl w7_)).chg hc8_ (by omega);refine ze4 zbB hv3_s8 (Ext.refl w8_) λv17 o17=>?_;refine ze5 zbB (hv2_c8.ext (Ext.refl w8_)) (o17.ext (Ext.refl w8_)) (by omega) λw9_ hc9_ hv2_s9=>?_;have σhc9_:=hc9_.size;have hv3_s8_c9:=(hv3_s8.ext (Ext.refl w8_)).chg hc9_ (by omega) (by omega);have o15_c9:=(o15_c8.ext (Ext.refl w8_)).chg hc9_ (by omega);have o17_c9:=(o17.ext (Ext.refl w8_)).chg hc9_ (by omega);refine zip zbB hv2_s9 (Ext.refl w9_) λr2 hr2=>?_
 replace hr2:=hr2.ext (Ext.refl w9_)
 refine ⟨(Ext.chgI (Ext.chgI ((Ext.chgI (Ext.chgI (Ext.chgI ((η1.t η2).trans η3) hc4_ (by omega)) hc5_ (by omega)) hc6_ (by omega)).trans η7) hc8_ (by omega)) hc9_ (by omega)),?_⟩;have:=(hr2.mono (lo':=w.heap.size) (by omega) (lr _)).own;cases t;exact this
theorem zrL (t:DTerm):zuH t:=DTerm.ind (λt ih {w v} h hn=>znV h (Ext.refl w) (λ{_ _} h hn=>zmL ih h hn) hn) t
def F76 (a0:Value) (w:World) (R:VW):Prop:=
 oX 95 a0 w λx1 w=>
 oP (aL 111) w λx2 w=>
 oP (aL 111) w λx3 w=>
 rF 95 x1 0 w λx4=>
 rL 3 x4 w λx5=>
 rF 111 x3 0 w λx6=>
 oS 3 x6 x5 w λw=>
 rF 95 x1 1 w λx7=>
 rL 3 x7 w λx8=>
 rF 111 x3 1 w λx9=>
 oS 3 x9 x8 w λw=>
 rF 95 x1 2 w λx10=>
 rL 93 x10 w λx11=>
 cL 131 [x11] w λx12 w=>
 rF 111 x3 2 w λx13=>
 oS 109 x13 x12 w λw=>
 rF 95 x1 3 w λx14=>
 rL 3 x14 w λx15=>
 rF 111 x3 3 w λx16=>
 oS 3 x16 x15 w λw=>
 rL 111 x3 w λx17=>
 oS 111 x2 x17 w λw=>
 rD (zea 111 x2) w λr2=>R r2 w
theorem F76_call {a0 w R} (h:F76 a0 w R):cL 76 [a0] w R:=co (g:=(kf [] [] [])) Tryz.func76 h
theorem ztI {w:World} {v0:Value} {W0:World} {t:DIns}  (h0:Is W0 v0 t) (e0:Ext W0 w) (hn:wT t.term≤1048576) :
   CALL tp 76 [v0] w λr w'=>Ext w w'∧(Own w.heap.size w' r t):=by
 refine F76_call ?_;unfold F76;have σe0:=e0.size;refine zar zv3 rfl h0 e0 λw1_ η1 hA1 hV1=>?_;have σ1:=η1.size;refine zeD (α:=DIns) zfx λw2_ η2 hv2=>?_;have hg2:=hv2.lt;have σ2:=η2.size;refine zeD (α:=DIns) zfx λw3_ η3 hv3=>?_;have hg3:=hv3.lt;have σ3:=η3.size;refine zab zwl ?_;refine zad ty3 (zav hA1) (η2.t η3) λhI5=>?_;refine zab zaM ?_;obtain ⟨Fv4,hO4,hF4⟩:=(hv3.ext (Ext.refl w3_));obtain ⟨Gv4,hL4⟩:=zi9 (Lens.var hO4);refine zcH ty3 hL4 hF4 (ownI_int (lo:=w3_.heap.size) (hi:=w3_.heap.size) (by first | assumption | (unfold I64 at *;omega))) (by omega) (by omega) λw4_ hc4_ hv4_=>?_;have hv3_s4:=hv4_ (w3_.heap.size) (by omega) (by omega) (w3_.heap.size) (by omega) (by omega);clear hv4_ hL4 hO4 hF4;have σhc4_:=hc4_.size;have hv2_c4:=(hv2.ext η3).chg hc4_ (by omega) (by omega);refine zab zwm ?_;refine zad ty3 (zat hA1) (Ext.chgI (η2.t η3) hc4_ (by omega)) λhI8=>?_;refine zab zaK ?_;obtain ⟨Fv5,hO5,hF5⟩:=(hv3_s4.ext (Ext.refl w4_));obtain ⟨Gv5,hL5⟩:=zja (Lens.var hO5);refine zcH ty3 hL5 hF5 (ownI_int (lo:=w4_.heap.size) (hi:=w4_.heap.size) (by first | assumption | (unfold I64 at *;omega))) (by omega) (by omega) λw5_ hc5_ hv5_=>?_;have hv3_s5:=hv5_ (w3_.heap.size) (by omega) (by omega) (w4_.heap.size) (by omega) (by omega);clear hv5_ hL5 hO5 hF5;have σhc5_:=hc5_.size;have hv2_c5:=(hv2_c4.ext (Ext.refl w4_)).chg hc5_ (by omega) (by omega);refine zab zuz ?_;refine zaa zuw (zbG hA1) (Ext.chgI (Ext.chgI (η2.t η3) hc4_ (by omega)) hc5_ (by omega)) λv11 h11=>?_;refine ((zrL _) (h11.ext (Ext.chgI (Ext.chgI (η2.t η3) hc4_ (by omega)) hc5_ (by omega))) (by assumption)).mono ?_;rintro r12 w6_ ⟨η6,o12⟩;have o12:=o12.toI;have σ6:=η6.size;refine zab zcf ?_;obtain ⟨Fv7,hO7,hF7⟩:=(hv3_s5.ext η6);obtain ⟨Gv7,hL7⟩:=zef (Lens.var hO7);refine zcH zbB hL7 hF7 (o12.ext (Ext.refl w6_)) (by omega) (by omega) λw7_ hc7_ hv7_=>?_;have hv3_s7:=hv7_ (w3_.heap.size) (by omega) (by omega) (w6_.heap.size) (by omega) (by omega);clear hv7_ hL7 hO7 hF7;have σhc7_:=hc7_.size;have hv2_c7:=(hv2_c5.ext η6).chg hc7_ (by omega) (by omega);have o12_c7:=(o12.ext (Ext.refl w6_)).chg hc7_ (by omega);refine zab zwn ?_;refine zad ty3 (zbH hA1) (Ext.chgI ((Ext.chgI (Ext.chgI (η2.t η3) hc4_ (by omega)) hc5_ (by omega)).trans η6) hc7_ (by omega)) λhI15=>?_;refine zab zcB ?_;obtain ⟨Fv8,hO8,hF8⟩:=(hv3_s7.ext (Ext.refl w7_));obtain ⟨Gv8,hL8⟩:=zjb (Lens.var hO8);refine zcH ty3 hL8 hF8 (ownI_int (lo:=w7_.heap.size) (hi:=w7_.heap.size) (by first | assumption | (unfold I64 at *;omega))) (by omega) (by omega) λw8_ hc8_ hv8_=>?_;have hv3_s8:=hv8_ (w3_.heap.size) (by omega) (by omega) (w7_.heap.size) (by omega) (by omega);clear hv8_ hL8 hO8 hF8;have σhc8_:=hc8_.size;have hv2_c8:=(hv2_c7.ext (Ext.refl w7_)).chg hc8_ (by omega) (by omega);have o12_c8:=(o12_c7.ext (Ext.refl w7_)).chg hc8_ (by omega);refine ze4 zaO hv3_s8 (Ext.refl w8_) λv17 o17=>?_;refine ze5 zaO (hv2_c8.ext (Ext.refl w8_)) (o17.ext (Ext.refl w8_)) (by omega) λw9_ hc9_ hv2_s9=>?_;have σhc9_:=hc9_.size;have hv3_s8_c9:=(hv3_s8.ext (Ext.refl w8_)).chg hc9_ (by omega) (by omega);have o12_c9:=(o12_c8.ext (Ext.refl w8_)).chg hc9_ (by omega);have o17_c9:=(o17.ext (Ext.refl w8_)).chg hc9_ (by omega);refine zip zaO hv2_s9 (Ext.refl w9_) λr2 hr2=>?_
 replace hr2:=hr2.ext (Ext.refl w9_)
 refine ⟨(Ext.chgI (Ext.chgI (Ext.chgI ((Ext.chgI (Ext.chgI ((η1.t η2).trans η3) hc4_ (by omega)) hc5_ (by omega)).trans η6) hc7_ (by omega)) hc8_ (by omega)) hc9_ (by omega)),?_⟩;exact (hr2.mono (lo':=w.heap.size) (by omega) (lr _)).own
theorem zrM {w:World} {v:Value} {l:List DIns} (h:Is w v l) (hn:zuE l≤1048576) :
   CALL tp 41 [v] w λr w'=>Ext w w'∧Own w.heap.size w' r l:=by
 unfold zuE at hn;refine F41_call ?_;unfold F41;refine zae u24 h ?_;refine ziM (α:=DIns) u30 zaO zxo (by omega) (by omega) λw1 hx1 hf=>?_;refine zam l.length (λk us w'=>us=[.int .i64 (k:Int)]∧Ext w w'∧∃ Fi,Fill w.heap.size 111 l.length Fi w' (l.take k)∧∀ b∈Fi,w.heap.size≤b) 0 (z0 _) ⟨rfl,hx1,[],by simpa using hf,by simp⟩ ?_;rintro k m u w2 hkm ⟨hu,hx2,Fi,hf2,hFl⟩;try replace hu:=zbi hu
 rw [hu];refine zae u24 h ?_;refine zag ?_;refine br (λhlt=>?_) (λhge=>?_)
 · have hk:k<l.length:=by omega
   refine zac u24 zv3 h hk λb o hA=>?_;refine zaa zv3 hA hx2 λv19 h19=>?_;refine (ztI h19 hx2 (by have:=zuA (λi:DIns=>wT i.term) (List.getElem_mem hk);omega)).mono ?_;rintro r20 w3 ⟨hx3,F20,hm20,hl20⟩;refine zdh u30 zaO hk ?_;refine zgM (α:=DIns) zaO (hf2.ext hx3) (by simp [Rep.size];omega) (by simp;omega) hm20 (zky (lo:=0) hf2 hm20 hl20) λw4 hc4 hf4=>?_;refine ziK (by have:=zah h;omega) ?_;refine ⟨m-1,by omega,k+1,by omega,rfl,(hx2.t hx3).chg_trans hc4 (by simp),Fi++F20,?_,?_⟩
   · rw [tk hk]
     exact hf4
   intro b hb;rcases List.mem_append.1 hb with hb | hb
   · exact hFl b hb
   exact Nat.le_trans hx2.size (hl20 b hb)
 have hk:k=l.length:=by omega
 subst hk;rw [List.take_length] at hf2;exact ⟨hx2,_,hf2.own rfl (by rw [zan];omega),by simpa using hFl⟩
def F9 (a0:Value) (w:World) (R:VW):Prop:=
 oX 26 a0 w λx1 w=>
 oP (aL 32) w λx2 w=>
 oP (aL 32) w λx3 w=>
 rF 26 x1 0 w λx4=>
 rL 22 x4 w λx5=>
 cL 39 [x5] w λx6 w=>
 rF 32 x3 0 w λx7=>
 oS 22 x7 x6 w λw=>
 rF 26 x1 1 w λx8=>
 rL 22 x8 w λx9=>
 cL 39 [x9] w λx10 w=>
 rF 32 x3 1 w λx11=>
 oS 22 x11 x10 w λw=>
 rF 26 x1 2 w λx12=>
 rL 22 x12 w λx13=>
 cL 39 [x13] w λx14 w=>
 rF 32 x3 2 w λx15=>
 oS 22 x15 x14 w λw=>
 rF 26 x1 3 w λx16=>
 rL 23 x16 w λx17=>
 cL 40 [x17] w λx18 w=>
 rF 32 x3 3 w λx19=>
 oS 23 x19 x18 w λw=>
 rF 26 x1 4 w λx20=>
 rL 24 x20 w λx21=>
 cL 41 [x21] w λx22 w=>
 rF 32 x3 4 w λx23=>
 oS 30 x23 x22 w λw=>
 rL 32 x3 w λx24=>
 oS 32 x2 x24 w λw=>
 rD (zea 32 x2) w λr2=>R r2 w
theorem F9_call {a0 w R} (h:F9 a0 w R):cL 9 [a0] w R:=co (g:=(kf [] [] [])) Tryz.func9 h
theorem znW {w:World} {v0:Value} {W0:World} {t:DCode}  (h0:Is W0 v0 t) (e0:Ext W0 w) (hn:zlo t≤1048576) :
   CALL tp 9 [v0] w λr w'=>Ext w w'∧(Own w.heap.size w' r t):=by
 refine F9_call ?_;unfold F9;unfold zlo zvl at hn;have σe0:=e0.size;refine zar zwT rfl h0 e0 λw1_ η1 hA1 hV1=>?_;have σ1:=η1.size;refine zeD (α:=DCode) zwU λw2_ η2 hv2=>?_;have hg2:=hv2.lt;have σ2:=η2.size;refine zeD (α:=DCode) zwU λw3_ η3 hv3=>?_;have hg3:=hv3.lt;have σ3:=η3.size;refine zab zuo ?_;refine zaa zb1 (za8 hA1) (η2.t η3) λv5 h5=>?_;refine (zfJ (h5.ext (η2.t η3)) (by omega)).mono ?_;rintro r6 w4_ ⟨η4,o6⟩;have o6:=o6.toI;have σ4:=η4.size;refine zab zdi ?_;obtain ⟨Fv5,hO5,hF5⟩:=(hv3.ext η4);obtain ⟨Gv5,hL5⟩:=zmz (Lens.var hO5);refine zcH zb1 hL5 hF5 (o6.ext (Ext.refl w4_)) (by omega) (by omega) λw5_ hc5_ hv5_=>?_;have hv3_s5:=hv5_ (w3_.heap.size) (by omega) (by omega) (w4_.heap.size) (by omega) (by omega);clear hv5_ hL5 hO5 hF5;have σhc5_:=hc5_.size;have hv2_c5:=(hv2.ext (η3.t η4)).chg hc5_ (by omega) (by omega);have o6_c5:=(o6.ext (Ext.refl w4_)).chg hc5_ (by omega);refine zab zup ?_;refine zaa zb1 (za5 hA1) (Ext.chgI ((η2.t η3).trans η4) hc5_ (by omega)) λv9 h9=>?_;refine (zfJ (h9.ext (Ext.chgI ((η2.t η3).trans η4) hc5_ (by omega))) (by omega)).mono ?_;rintro r10 w6_ ⟨η6,o10⟩;have o10:=o10.toI;have σ6:=η6.size;refine zab zc5 ?_;obtain ⟨Fv7,hO7,hF7⟩:=(hv3_s5.ext η6);obtain ⟨Gv7,hL7⟩:=zmA (Lens.var hO7);refine zcH zb1 hL7 hF7 (o10.ext (Ext.refl w6_)) (by omega) (by omega) λw7_ hc7_ hv7_=>?_;have hv3_s7:=hv7_ (w3_.heap.size) (by omega) (by omega) (w6_.heap.size) (by omega) (by omega);clear hv7_ hL7 hO7 hF7;have σhc7_:=hc7_.size;have hv2_c7:=(hv2_c5.ext η6).chg hc7_ (by omega) (by omega);have o6_c7:=(o6_c5.ext η6).chg hc7_ (by omega);have o10_c7:=(o10.ext (Ext.refl w6_)).chg hc7_ (by omega);refine zab zuq ?_;refine zaa zb1 (zau hA1) (Ext.chgI ((Ext.chgI ((η2.t η3).trans η4) hc5_ (by omega)).trans η6) hc7_ (by omega)) λv13 h13=>?_;refine (zfJ (h13.ext (Ext.chgI ((Ext.chgI ((η2.t η3).trans η4) hc5_ (by omega)).trans η6) hc7_ (by omega))) (by omega)).mono ?_;rintro r14 w8_ ⟨η8,o14⟩;have o14:=o14.toI;have σ8:=η8.size;refine zab zbf ?_;obtain ⟨Fv9,hO9,hF9⟩:=(hv3_s7.ext η8);obtain ⟨Gv9,hL9⟩:=zmB (Lens.var hO9);refine zcH zb1 hL9 hF9 (o14.ext (Ext.refl w8_)) (by omega) (by omega) λw9_ hc9_ hv9_=>?_;have hv3_s9:=hv9_ (w3_.heap.size) (by omega) (by omega) (w8_.heap.size) (by omega) (by omega);clear hv9_ hL9 hO9 hF9;have σhc9_:=hc9_.size;have hv2_c9:=(hv2_c7.ext η8).chg hc9_ (by omega) (by omega);have o6_c9:=(o6_c7.ext η8).chg hc9_ (by omega);have o10_c9:=(o10_c7.ext η8).chg hc9_ (by omega);have o14_c9:=(o14.ext (Ext.refl w8_)).chg hc9_ (by omega);refine zab zur ?_;refine zaa za4 (zap hA1) (Ext.chgI ((Ext.chgI ((Ext.chgI ((η2.t η3).trans η4) hc5_ (by omega)).trans η6) hc7_ (by omega)).trans η8) hc9_ (by omega)) λv17 h17=>?_;refine (zgS (h17.ext (Ext.chgI ((Ext.chgI ((Ext.chgI ((η2.t η3).trans η4) hc5_ (by omega)).trans η6) hc7_ (by omega)).trans η8) hc9_ (by omega))) (by omega)).mono ?_;rintro r18 w10_ ⟨η10,o18⟩;have o18:=o18.toI;have σ10:=η10.size;refine zab za6 ?_;obtain ⟨Fv11,hO11,hF11⟩:=(hv3_s9.ext η10);obtain ⟨Gv11,hL11⟩:=zmC (Lens.var hO11);refine zcH za4 hL11 hF11 (o18.ext (Ext.refl w10_)) (by omega) (by omega) λw11_ hc11_ hv11_=>?_;have hv3_s11:=hv11_ (w3_.heap.size) (by omega) (by omega) (w10_.heap.size) (by omega) (by omega);clear hv11_ hL11 hO11 hF11;have σhc11_:=hc11_.size;have hv2_c11:=(hv2_c9.ext η10).chg hc11_ (by omega) (by omega);have o6_c11:=(o6_c9.ext η10).chg hc11_ (by omega);have o10_c11:=(o10_c9.ext η10).chg hc11_ (by omega);have o14_c11:=(o14_c9.ext η10).chg hc11_ (by omega);have o18_c11:=(o18.ext (Ext.refl w10_)).chg hc11_ (by omega);refine zab zus ?_;refine zaa zw4 (zai hA1) (Ext.chgI ((Ext.chgI ((Ext.chgI ((Ext.chgI ((η2.t η3).trans η4) hc5_ (by omega)).trans η6) hc7_ (by omega)).trans η8) hc9_ (by omega)).trans η10) hc11_ (by omega)) λv21 h21=>?_;refine (zrM (h21.ext (Ext.chgI ((Ext.chgI ((Ext.chgI ((Ext.chgI ((η2.t η3).trans η4) hc5_ (by omega)).trans η6) hc7_ (by omega)).trans η8) hc9_ (by omega)).trans η10) hc11_ (by omega))) (by omega)).mono ?_;rintro r22 w12_ ⟨η12,o22⟩;have o22:=o22.toI
 have σ12:=η12.size;refine zab zaD ?_;obtain ⟨Fv13,hO13,hF13⟩:=(hv3_s11.ext η12);obtain ⟨Gv13,hL13⟩:=zmD (Lens.var hO13);refine zcH zcu hL13 hF13 (o22.ext (Ext.refl w12_)) (by omega) (by omega) λw13_ hc13_ hv13_=>?_;have hv3_s13:=hv13_ (w3_.heap.size) (by omega) (by omega) (w12_.heap.size) (by omega) (by omega);clear hv13_ hL13 hO13 hF13;have σhc13_:=hc13_.size;have hv2_c13:=(hv2_c11.ext η12).chg hc13_ (by omega) (by omega);have o6_c13:=(o6_c11.ext η12).chg hc13_ (by omega);have o10_c13:=(o10_c11.ext η12).chg hc13_ (by omega);have o14_c13:=(o14_c11.ext η12).chg hc13_ (by omega);have o18_c13:=(o18_c11.ext η12).chg hc13_ (by omega);have o22_c13:=(o22.ext (Ext.refl w12_)).chg hc13_ (by omega);refine ze4 zbq hv3_s13 (Ext.refl w13_) λv24 o24=>?_;refine ze5 zbq (hv2_c13.ext (Ext.refl w13_)) (o24.ext (Ext.refl w13_)) (by omega) λw14_ hc14_ hv2_s14=>?_;have σhc14_:=hc14_.size;have hv3_s13_c14:=(hv3_s13.ext (Ext.refl w13_)).chg hc14_ (by omega) (by omega);have o6_c14:=(o6_c13.ext (Ext.refl w13_)).chg hc14_ (by omega);have o10_c14:=(o10_c13.ext (Ext.refl w13_)).chg hc14_ (by omega);have o14_c14:=(o14_c13.ext (Ext.refl w13_)).chg hc14_ (by omega);have o18_c14:=(o18_c13.ext (Ext.refl w13_)).chg hc14_ (by omega);have o22_c14:=(o22_c13.ext (Ext.refl w13_)).chg hc14_ (by omega);have o24_c14:=(o24.ext (Ext.refl w13_)).chg hc14_ (by omega);refine zip zbq hv2_s14 (Ext.refl w14_) λr2 hr2=>?_
 replace hr2:=hr2.ext (Ext.refl w14_)
 refine ⟨(Ext.chgI (Ext.chgI ((Ext.chgI ((Ext.chgI ((Ext.chgI ((Ext.chgI (((η1.t η2).trans η3).trans η4) hc5_ (by omega)).trans η6) hc7_ (by omega)).trans η8) hc9_ (by omega)).trans η10) hc11_ (by omega)).trans η12) hc13_ (by omega)) hc14_ (by omega)),?_⟩;exact (hr2.mono (lo':=w.heap.size) (by omega) (lr _)).own
theorem zg5 {w:World} {v:Value} {t:DCode} (h:Is w v t) (hn:zlo t≤1048576):CALL tp 9 [v] w λr w'=>Ext w w'∧Own w.heap.size w' r t:=znW h (Ext.refl w) hn
end Go.Proofs.YtifonhplnmpgaaaGreat
