/-
  Parts of the proof, put together by program.
-/
import Derived.Test.YtcnglfeoglgebaaGreatPFnGuarded1
set_option linter.unusedVariables false
set_option linter.unusedSimpArgs false
set_option linter.unusedSectionVars false
namespace Go.Sh
open Rep (rep)
inductive DTerm where
 | mk (kind num:Int) (name:ByteArray) (kids:List DTerm)
namespace DTerm
def kind:DTerm→Int | .mk k _ _ _=>k
def num:DTerm→Int | .mk _ n _ _=>n
def name:DTerm→ByteArray | .mk _ _ s _=>s
def kids:DTerm→List DTerm | .mk _ _ _ l=>l
def tup (t:DTerm):Int×Int×ByteArray×List DTerm:=(t.kind,t.num,t.name,t.kids)
end DTerm
theorem DTerm.eta (t:DTerm):DTerm.mk t.kind t.num t.name t.kids=t:=by cases t;rfl
theorem DTerm.ext_iff {x y:DTerm}:x=y↔(x.kind=y.kind∧x.num=y.num∧x.name=y.name∧x.kids=y.kids):=by
 constructor
 · intro h;rw [h];exact ⟨rfl,rfl,rfl,rfl⟩
 rintro ⟨h1,h2,h3,h4⟩
 rw [←DTerm.eta x,←DTerm.eta y,h1,h2,h3,h4]
theorem DTerm.kid_lt {t k:DTerm} (h:k∈t.kids):SizeOf.sizeOf k<SizeOf.sizeOf t:=by
 cases t with
 | mk a b c l=>
   have:k∈l:=h
   have:=List.sizeOf_lt_of_mem this
   simp only [DTerm.mk.sizeOf_spec];omega
theorem DTerm.ind {p:DTerm→Prop} (h:∀ t,(∀ k∈t.kids,p k)→p t) (t:DTerm):p t:=
  h t fun k hk=>DTerm.ind h k
termination_by SizeOf.sizeOf t
decreasing_by exact DTerm.kid_lt hk
mutual
def DTerm.beq:DTerm→DTerm→Bool
  | .mk a b c l,.mk a' b' c' l'=>decide (a=a')&&decide (b=b')&&decide (c=c')&&DTerm.beqL l l'
def DTerm.beqL:List DTerm→List DTerm→Bool
  | [],[]=>true
  | x :: l,y :: m=>DTerm.beq x y&&DTerm.beqL l m
  | _,_=>false
end
mutual
theorem DTerm.beq_iff:∀ (x y:DTerm),DTerm.beq x y=true↔x=y
  | .mk a b c l,.mk a' b' c' l'=>by
    simp only [DTerm.beq,Bool.and_eq_true,decide_eq_true_eq,DTerm.mk.injEq,DTerm.beqL_iff l l',and_assoc]
theorem DTerm.beqL_iff:∀ (x y:List DTerm),DTerm.beqL x y=true↔x=y
  | [],[]=>by simp [DTerm.beqL]
  | [],y :: m=>by simp [DTerm.beqL]
  | x :: l,[]=>by simp [DTerm.beqL]
  | x :: l,y :: m=>by simp only [DTerm.beqL,Bool.and_eq_true,DTerm.beq_iff x y,DTerm.beqL_iff l m,List.cons.injEq]
end
instance:DecidableEq DTerm:=fun x y=>decidable_of_iff _ (DTerm.beq_iff x y)
mutual
def zjW:DTerm→List Nat→World→List Value→Prop
  | .mk k n s ks,F,w,cs=>∃ a cap Fi xs,cs=[.int .i64 k,.int .i64 n,.string s,.slice a ks.length cap]∧I64 k∧I64 n∧s.size≤maxLen∧ks.length≤cap∧cap≤maxLen∧zdb ks Fi w xs ∧
    ((ks=[]∧F=[])∨∃ b o,a=some ⟨b,o,none⟩∧F=b :: Fi∧w.rangeAt b o xs∧b<w.heap.size)
def zdb:List DTerm→List Nat→World→List Value→Prop
  | [],F,_,xs=>F=[]∧xs=[]
  | y :: ys,F,w,xs=>∃ F1 F2 c1 c2,F=F1++F2∧xs=c1++c2∧zjW y F1 w c1∧zdb ys F2 w c2
end
theorem zoy {t:DTerm} {F:List Nat} {w:World} {cs:List Value} (h:zjW t F w cs):cs.length=4:=by
 cases t;rw [zjW] at h;obtain ⟨a,cap,Fi,xs,rfl,_⟩:=h;rfl
theorem zoz {t:DTerm} {F:List Nat} {w:World} {cs:List Value} (h:zjW t F w cs):∀ v∈cs,v.oneCell'=true:=by
 cases t;rw [zjW] at h;obtain ⟨a,cap,Fi,xs,rfl,_⟩:=h
 intro v hv
 simp only [List.mem_cons,List.not_mem_nil,or_false] at hv
 rcases hv with rfl | rfl | rfl | rfl<;>rfl
mutual
theorem ziP:∀ (t:DTerm) {F:List Nat} {w w':World} {cs:List Value},zjW t F w cs→(∀ b∈F,w'.heap[b]?=w.heap[b]?)→zjW t F w' cs
  | .mk k n s ks,F,w,w',cs,h,hk=>by
    rw [zjW] at h ⊢
    obtain ⟨a,cap,Fi,xs,hcs,i1,i2,i3,h1,h2,hc,h4⟩:=h
    rcases h4 with ⟨rfl,rfl⟩ | ⟨b,o,ha,hF,hr,hb⟩
    · exact ⟨a,cap,Fi,xs,hcs,i1,i2,i3,h1,h2,by rw [zdb] at hc ⊢;exact hc,.inl ⟨rfl,rfl⟩⟩
    subst hF
    have hbb:=hk b (by simp)
    refine ⟨a,cap,Fi,xs,hcs,i1,i2,i3,h1,h2,zgn ks hc fun c hc=>hk c (by simp [hc]),.inr ⟨b,o,ha,rfl,zaS hr hbb,?_⟩⟩
    rcases Nat.lt_or_ge b (Array.size (World.heap w')) with h' | h'
    · exact h'
    rw [Array.getElem?_eq_none h'] at hbb
    simp [Array.getElem?_eq_getElem hb] at hbb
theorem zgn:∀ (l:List DTerm) {F:List Nat} {w w':World} {cs:List Value},zdb l F w cs→(∀ b∈F,w'.heap[b]?=w.heap[b]?)→zdb l F w' cs
  | [],F,w,w',cs,h,_=>by rw [zdb] at h ⊢;exact h
  | y :: ys,F,w,w',cs,h,hk=>by
    rw [zdb] at h ⊢
    obtain ⟨F1,F2,c1,c2,rfl,rfl,h1,h2⟩:=h
    exact ⟨F1,F2,c1,c2,rfl,rfl,ziP y h1 fun b hb=>hk b (by simp [hb]),zgn ys h2 fun b hb=>hk b (by simp [hb])⟩
end
mutual
theorem zmP:∀ (t:DTerm) {F:List Nat} {w:World} {cs:List Value},zjW t F w cs→∀ b∈F,b<w.heap.size
  | .mk k n s ks,F,w,cs,h,c,hm=>by
    rw [zjW] at h
    obtain ⟨a,cap,Fi,xs,hcs,i1,i2,i3,h1,h2,hc,h4⟩:=h
    rcases h4 with ⟨rfl,rfl⟩ | ⟨b,o,ha,hF,hr,hb⟩
    · cases hm
    subst hF
    rcases List.mem_cons.1 hm with rfl | hm
    · exact hb
    exact ziQ ks hc c hm
theorem ziQ:∀ (l:List DTerm) {F:List Nat} {w:World} {cs:List Value},zdb l F w cs→∀ b∈F,b<w.heap.size
  | [],F,w,cs,h,c,hm=>by rw [zdb] at h;rw [h.1] at hm;cases hm
  | y :: ys,F,w,cs,h,c,hm=>by
    rw [zdb] at h
    obtain ⟨F1,F2,c1,c2,rfl,rfl,h1,h2⟩:=h
    rcases List.mem_append.1 hm with hm | hm
    · exact zmP y h1 c hm
    exact ziQ ys h2 c hm
end
instance:Rep DTerm where
 size:=4
 agg:=true
 rep F w cs x:=zjW x F w cs
 pos:=by decide
 sz h:=by cases h
 len h:=zoy h
 one h:=zoz h
 keep h hk:=ziP _ h hk
 lt h:=zmP _ h
theorem zeY {w:World}:∀ {l:List DTerm} {F:List Nat} {xs:List Value},zdb l F w xs↔Cells F w xs l
 | [],F,xs=>by rw [zdb];exact Iff.rfl
 | y :: ys,F,xs=>by
   rw [zdb]
   constructor
   · rintro ⟨F1,F2,c1,c2,h1,h2,h3,h4⟩;exact ⟨F1,F2,c1,c2,h1,h2,h3,zeY.1 h4⟩
   rintro ⟨F1,F2,c1,c2,h1,h2,h3,h4⟩;exact ⟨F1,F2,c1,c2,h1,h2,h3,zeY.2 h4⟩
theorem zew {w:World} {F:List Nat} {cs:List Value} {t:DTerm}:rep F w cs t↔rep F w cs t.tup:=by
 obtain ⟨k,n,s,ks⟩:=t
 show zjW _ F w cs↔_
 rw [zjW]
 constructor
 · rintro ⟨a,cap,Fi,xs,rfl,i1,i2,i3,h1,h2,hc,h4⟩
   refine ⟨[],F,[.int .i64 k],_,rfl,rfl,⟨rfl,rfl,i1⟩,[],F,[.int .i64 n],_,rfl,rfl,⟨rfl,rfl,i2⟩,[],F,[.string s],_,rfl,rfl,⟨rfl,rfl,i3⟩,a,cap,Fi,xs,rfl,h1,h2,zeY.1 hc,h4⟩
 rintro ⟨_,_,_,_,rfl,rfl,⟨rfl,rfl,i1⟩,_,_,_,_,rfl,rfl,⟨rfl,rfl,i2⟩,_,_,_,_,rfl,rfl,⟨rfl,rfl,i3⟩,a,cap,Fi,xs,rfl,h1,h2,hc,h4⟩
 exact ⟨a,cap,Fi,xs,rfl,i1,i2,i3,h1,h2,zeY.2 hc,h4⟩
theorem zkU {w:World} {b o:Nat} {t:DTerm}:At w b o t↔At w b o t.tup:=
 ⟨fun ⟨F,cs,h,k⟩=>⟨F,cs,zew.1 h,k⟩,fun ⟨F,cs,h,k⟩=>⟨F,cs,zew.2 h,k⟩⟩
theorem zmQ {w:World} {G:List Nat} {b o:Nat} {t:DTerm}:OAt G w b o t↔OAt G w b o t.tup:=
 ⟨fun ⟨cs,h,k⟩=>⟨cs,zew.1 h,k⟩,fun ⟨cs,h,k⟩=>⟨cs,zew.2 h,k⟩⟩
section
variable {w:World} {b o:Nat}
theorem zd8 {x:DTerm} (h:At w b o x):At w b (o+0) x.kind:=zbE (α:=Int) (β:=Int×ByteArray×List DTerm) (p:=x.tup) (zkU.1 h)
theorem zcu {x:DTerm} (h:At w b o x):At w b (o+1) x.num:=zbE (α:=Int) (β:=ByteArray×List DTerm) (p:=(x.num,x.name,x.kids)) (zaL (α:=Int) (β:=Int×ByteArray×List DTerm) (p:=x.tup) (zkU.1 h))
theorem zcv {x:DTerm} (h:At w b o x):At w b (o+2) x.name:=zbE (α:=ByteArray) (β:=List DTerm) (p:=(x.name,x.kids)) (zaL (α:=Int) (β:=ByteArray×List DTerm) (p:=(x.num,x.name,x.kids)) (zaL (α:=Int) (β:=Int×ByteArray×List DTerm) (p:=x.tup) (zkU.1 h)))
theorem za4 {x:DTerm} (h:At w b o x):At w b (o+3) x.kids:=zaL (α:=ByteArray) (β:=List DTerm) (p:=(x.name,x.kids)) (zaL (α:=Int) (β:=ByteArray×List DTerm) (p:=(x.num,x.name,x.kids)) (zaL (α:=Int) (β:=Int×ByteArray×List DTerm) (p:=x.tup) (zkU.1 h)))
theorem zmR {x:DTerm} {F0:List Nat} {c0:List Value} (h0:rep F0 w c0 x.kind) {F1:List Nat} {c1:List Value} (h1:rep F1 w c1 x.num) {F2:List Nat} {c2:List Value} (h2:rep F2 w c2 x.name) {F3:List Nat} {c3:List Value} (h3:rep F3 w c3 x.kids) :
   rep (F0++(F1++(F2++F3))) w (c0++(c1++(c2++c3))) x:=zew.2 (zaj h0 (zaj h1 (zaj h2 h3)))
end
theorem Lens.term {w:World} {γ:Type} {H:List Nat→World→γ→Prop} {F:List Nat} {b o:Nat} {G:List Nat} {t:DTerm} {upd:DTerm→γ} (h:Lens H F w b o G t upd) :
   Lens H F w b o G t.tup (fun p=>upd (.mk p.1 p.2.1 p.2.2.1 p.2.2.2)):=
 ⟨zmQ.1 h.here,h.sub,fun w' G' y' hc hO hs=>h.back w' G' _ hc (zmQ.2 hO) hs⟩
instance:RepZ DTerm:=⟨.mk 0 0 ByteArray.empty [],RepZ.zc (Int×Int×ByteArray×List DTerm),fun w=>zew.2 (RepZ.zr (α:=Int×Int×ByteArray×List DTerm) w)⟩
section
variable {γ:Type} {H:List Nat→World→γ→Prop} {F:List Nat} {w:World} {b o:Nat} {G:List Nat} {x:DTerm} {upd:DTerm→γ}
end
structure DIns where
 op:Int
 arg:Int
 term:DTerm
 to:Int
theorem DIns.ext_iff {x y:DIns}:x=y↔(x.op=y.op∧x.arg=y.arg∧x.term=y.term∧x.to=y.to):=⟨fun h=>by rw [h];exact ⟨rfl,rfl,rfl,rfl⟩,fun h=>by obtain ⟨h0,h1,h2,h3⟩:=h;cases x;cases y;simp only at h0 h1 h2 h3;simp only [h0,h1,h2,h3]⟩
instance:DecidableEq DIns:=fun x y=>decidable_of_iff (x.op=y.op∧x.arg=y.arg∧x.term=y.term∧x.to=y.to) DIns.ext_iff.symm
instance:Rep DIns:=Rep.via fun x=>(x.op,x.arg,x.term,x.to)
theorem zaG {w:World} {b o:Nat} {x:DIns} (h:At w b o x):At w b (o+0) x.op:=zbE (α:=Int) (β:=Int×DTerm×Int) (p:=(x.op,x.arg,x.term,x.to)) h
theorem zaQ {w:World} {b o:Nat} {x:DIns} (h:At w b o x):At w b (o+1) x.arg:=zbE (α:=Int) (β:=DTerm×Int) (p:=(x.arg,x.term,x.to)) (zaL (α:=Int) (β:=Int×DTerm×Int) (p:=(x.op,x.arg,x.term,x.to)) h)
theorem zdc {w:World} {b o:Nat} {x:DIns} (h:At w b o x):At w b (o+2) x.term:=zbE (α:=DTerm) (β:=Int) (p:=(x.term,x.to)) (zaL (α:=Int) (β:=DTerm×Int) (p:=(x.arg,x.term,x.to)) (zaL (α:=Int) (β:=Int×DTerm×Int) (p:=(x.op,x.arg,x.term,x.to)) h))
theorem zb8 {w:World} {b o:Nat} {x:DIns} (h:At w b o x):At w b (o+6) x.to:=zaL (α:=DTerm) (β:=Int) (p:=(x.term,x.to)) (zaL (α:=Int) (β:=DTerm×Int) (p:=(x.arg,x.term,x.to)) (zaL (α:=Int) (β:=Int×DTerm×Int) (p:=(x.op,x.arg,x.term,x.to)) h))
instance:RepZ DIns:=⟨⟨(RepZ.zv:Int),(RepZ.zv:Int),(RepZ.zv:DTerm),(RepZ.zv:Int)⟩,RepZ.zc (Int×Int×DTerm×Int),fun w=>RepZ.zr (α:=Int×Int×DTerm×Int) w⟩
theorem zjX {γ:Type} {H:List Nat→World→γ→Prop} {F:List Nat} {w:World} {b o:Nat} {G:List Nat} {x:DIns} {upd:DIns→γ} (h:Lens H F w b o G x upd) :
   ∃ G1,Lens H F w b (o+6) G1 x.to (fun y=>upd ⟨x.op,x.arg,x.term,y⟩):=by
 have h':Lens H F w b o G (x.op,x.arg,x.term,x.to) (fun p:Int×Int×DTerm×Int=>upd ⟨p.1,p.2.1,p.2.2.1,p.2.2.2⟩):=⟨h.here,h.sub,fun w' G' y' hc hO hs=>h.back w' G' _ hc hO hs⟩
 obtain ⟨G0,h'⟩:=h'.snd
 obtain ⟨G1,h'⟩:=h'.snd
 obtain ⟨G2,h'⟩:=h'.snd
 exact ⟨_,h'⟩
structure DCode where
 globals:List ByteArray
 locks:List ByteArray
 procs:List ByteArray
 entry:List Int
 ins:List DIns
theorem DCode.ext_iff {x y:DCode}:x=y↔(x.globals=y.globals∧x.locks=y.locks∧x.procs=y.procs∧x.entry=y.entry∧x.ins=y.ins):=⟨fun h=>by rw [h];exact ⟨rfl,rfl,rfl,rfl,rfl⟩,fun h=>by obtain ⟨h0,h1,h2,h3,h4⟩:=h;cases x;cases y;simp only at h0 h1 h2 h3 h4;simp only [h0,h1,h2,h3,h4]⟩
instance:DecidableEq DCode:=fun x y=>decidable_of_iff (x.globals=y.globals∧x.locks=y.locks∧x.procs=y.procs∧x.entry=y.entry∧x.ins=y.ins) DCode.ext_iff.symm
instance:Rep DCode:=Rep.via fun x=>(x.globals,x.locks,x.procs,x.entry,x.ins)
theorem zcw {w:World} {b o:Nat} {x:DCode} (h:At w b o x):At w b (o+0) x.globals:=zbE (α:=List ByteArray) (β:=(List ByteArray)×(List ByteArray)×(List Int)×(List DIns)) (p:=(x.globals,x.locks,x.procs,x.entry,x.ins)) h
theorem zd9 {w:World} {b o:Nat} {x:DCode} (h:At w b o x):At w b (o+1) x.locks:=zbE (α:=List ByteArray) (β:=(List ByteArray)×(List Int)×(List DIns)) (p:=(x.locks,x.procs,x.entry,x.ins)) (zaL (α:=List ByteArray) (β:=(List ByteArray)×(List ByteArray)×(List Int)×(List DIns)) (p:=(x.globals,x.locks,x.procs,x.entry,x.ins)) h)
theorem zbe {w:World} {b o:Nat} {x:DCode} (h:At w b o x):At w b (o+2) x.procs:=zbE (α:=List ByteArray) (β:=(List Int)×(List DIns)) (p:=(x.procs,x.entry,x.ins)) (zaL (α:=List ByteArray) (β:=(List ByteArray)×(List Int)×(List DIns)) (p:=(x.locks,x.procs,x.entry,x.ins)) (zaL (α:=List ByteArray) (β:=(List ByteArray)×(List ByteArray)×(List Int)×(List DIns)) (p:=(x.globals,x.locks,x.procs,x.entry,x.ins)) h))
theorem zaD {w:World} {b o:Nat} {x:DCode} (h:At w b o x):At w b (o+3) x.entry:=zbE (α:=List Int) (β:=(List DIns)) (p:=(x.entry,x.ins)) (zaL (α:=List ByteArray) (β:=(List Int)×(List DIns)) (p:=(x.procs,x.entry,x.ins)) (zaL (α:=List ByteArray) (β:=(List ByteArray)×(List Int)×(List DIns)) (p:=(x.locks,x.procs,x.entry,x.ins)) (zaL (α:=List ByteArray) (β:=(List ByteArray)×(List ByteArray)×(List Int)×(List DIns)) (p:=(x.globals,x.locks,x.procs,x.entry,x.ins)) h)))
theorem zat {w:World} {b o:Nat} {x:DCode} (h:At w b o x):At w b (o+4) x.ins:=zaL (α:=List Int) (β:=(List DIns)) (p:=(x.entry,x.ins)) (zaL (α:=List ByteArray) (β:=(List Int)×(List DIns)) (p:=(x.procs,x.entry,x.ins)) (zaL (α:=List ByteArray) (β:=(List ByteArray)×(List Int)×(List DIns)) (p:=(x.locks,x.procs,x.entry,x.ins)) (zaL (α:=List ByteArray) (β:=(List ByteArray)×(List ByteArray)×(List Int)×(List DIns)) (p:=(x.globals,x.locks,x.procs,x.entry,x.ins)) h)))
instance:RepZ DCode:=⟨⟨(RepZ.zv:List ByteArray),(RepZ.zv:List ByteArray),(RepZ.zv:List ByteArray),(RepZ.zv:List Int),(RepZ.zv:List DIns)⟩,RepZ.zc ((List ByteArray)×(List ByteArray)×(List ByteArray)×(List Int)×(List DIns)),fun w=>RepZ.zr (α:=(List ByteArray)×(List ByteArray)×(List ByteArray)×(List Int)×(List DIns)) w⟩
theorem ziR {w:World} {F:List Nat} {cs:List Value} {x:DCode} (h:rep F w cs x):∃ F0 c0 F1 c1 F2 c2 F3 c3 F4 c4,F=(F0++(F1++(F2++(F3++F4))))∧cs=(c0++(c1++(c2++(c3++c4))))∧rep F0 w c0 x.globals∧rep F1 w c1 x.locks∧rep F2 w c2 x.procs∧rep F3 w c3 x.entry∧rep F4 w c4 x.ins:=by
 obtain ⟨F0,G0,c0,d0,rfl,rfl,h0,h⟩:=h
 obtain ⟨F1,G1,c1,d1,rfl,rfl,h1,h⟩:=h
 obtain ⟨F2,G2,c2,d2,rfl,rfl,h2,h⟩:=h
 obtain ⟨F3,G3,c3,d3,rfl,rfl,h3,h⟩:=h
 exact ⟨_,_,_,_,_,_,_,_,_,_,rfl,rfl,h0,h1,h2,h3,h⟩
structure DTouch where
 at_:Int
 global:Int
 write:Bool
 held:Int
theorem DTouch.ext_iff {x y:DTouch}:x=y↔(x.at_=y.at_∧x.global=y.global∧x.write=y.write∧x.held=y.held):=⟨fun h=>by rw [h];exact ⟨rfl,rfl,rfl,rfl⟩,fun h=>by obtain ⟨h0,h1,h2,h3⟩:=h;cases x;cases y;simp only at h0 h1 h2 h3;simp only [h0,h1,h2,h3]⟩
instance:DecidableEq DTouch:=fun x y=>decidable_of_iff (x.at_=y.at_∧x.global=y.global∧x.write=y.write∧x.held=y.held) DTouch.ext_iff.symm
instance:Rep DTouch:=Rep.via fun x=>(x.at_,x.global,x.write,x.held)
theorem zbU {w:World} {b o:Nat} {x:DTouch} (h:At w b o x):At w b (o+0) x.at_:=zbE (α:=Int) (β:=Int×Bool×Int) (p:=(x.at_,x.global,x.write,x.held)) h
theorem zex {w:World} {b o:Nat} {x:DTouch} (h:At w b o x):At w b (o+1) x.global:=zbE (α:=Int) (β:=Bool×Int) (p:=(x.global,x.write,x.held)) (zaL (α:=Int) (β:=Int×Bool×Int) (p:=(x.at_,x.global,x.write,x.held)) h)
theorem zgo {w:World} {b o:Nat} {x:DTouch} (h:At w b o x):At w b (o+2) x.write:=zbE (α:=Bool) (β:=Int) (p:=(x.write,x.held)) (zaL (α:=Int) (β:=Bool×Int) (p:=(x.global,x.write,x.held)) (zaL (α:=Int) (β:=Int×Bool×Int) (p:=(x.at_,x.global,x.write,x.held)) h))
theorem zds {w:World} {b o:Nat} {x:DTouch} (h:At w b o x):At w b (o+3) x.held:=zaL (α:=Bool) (β:=Int) (p:=(x.write,x.held)) (zaL (α:=Int) (β:=Bool×Int) (p:=(x.global,x.write,x.held)) (zaL (α:=Int) (β:=Int×Bool×Int) (p:=(x.at_,x.global,x.write,x.held)) h))
instance:RepZ DTouch:=⟨⟨(RepZ.zv:Int),(RepZ.zv:Int),(RepZ.zv:Bool),(RepZ.zv:Int)⟩,RepZ.zc (Int×Int×Bool×Int),fun w=>RepZ.zr (α:=Int×Int×Bool×Int) w⟩
theorem zmS {w:World} {x:DTouch} (h_at_:I64 x.at_) (h_global:I64 x.global)  (h_held:I64 x.held):Mine [] w (.agg #[.int .i64 x.at_,.int .i64 x.global,.bool x.write,.int .i64 x.held]) x:=⟨⟨[.int .i64 x.at_,.int .i64 x.global,.bool x.write,.int .i64 x.held],⟨[],[],[.int .i64 x.at_],[.int .i64 x.global,.bool x.write,.int .i64 x.held],rfl,rfl,⟨rfl,rfl,h_at_⟩,⟨[],[],[.int .i64 x.global],[.bool x.write,.int .i64 x.held],rfl,rfl,⟨rfl,rfl,h_global⟩,⟨[],[],[.bool x.write],[.int .i64 x.held],rfl,rfl,⟨rfl,rfl⟩,⟨rfl,rfl,h_held⟩⟩⟩⟩,rfl⟩,List.nodup_nil,Wr.nil w⟩
instance:Flat DTouch:=⟨fun h=>Flat.flat (α:=Int×Int×Bool×Int) h⟩
end Go.Sh
namespace Go.Proofs.YtcnglfeoglgebaaGreat
open Go Go.Sh Go.Proofs
open Rep (rep)
def zjG (b:UInt8):Bool:=decide ((97:Int)≤(b.toNat:Int)∧(b.toNat:Int)≤122)
def zmT (b:UInt8):Bool:=decide ((48:Int)≤(b.toNat:Int)∧(b.toNat:Int)≤57)
def zgp (s:ByteArray):Bool:=decide (s.size≤12)&&(bts s).head?.any zjG&&(bts s).all (fun b=>zjG b || zmT b)
def kw:List ByteArray:=[.mk #[97,110,100],.mk #[99,97,108,108],.mk #[101,108,115,101],.mk #[103,108,111,98,97,108,115],.mk #[105,102],.mk #[108,111,99,107],.mk #[108,111,99,107,115],
 .mk #[110,111,116],.mk #[112,114,111,99],.mk #[115,107,105,112],.mk #[115,112,97,119,110],.mk #[117,110,108,111,99,107],.mk #[119,104,105,108,101]]
def za9 (s:ByteArray):Bool:=zgp s&&!decide (s∈kw)
abbrev VW:=Value→World→Prop
noncomputable abbrev tp:Program:=Tryz.prog
abbrev T0:Operand:=.tmp 0
abbrev U0:Operand:=.const undef
abbrev ln (t y:Nat) (x:Value):Sem Value:=Builtin.len_ #[t] y [x].toArray
theorem zsy {u:Nat→Value} {a:Nat} {x:Value} (h:[a].map u=[x]):u a=x:=by simpa using h
theorem zey {u:Nat→Value} {a b:Nat} {x y:Value} (h:[a,b].map u=[x,y]):u a=x∧u b=y:=by simpa using h
theorem zsz {u:Nat→Value} {a b c:Nat} {x y z:Value} (h:[a,b,c].map u=[x,y,z]):u a=x∧u b=y∧u c=z:=by simpa using h
abbrev iV (x:Int):Value:=.int .i64 x
abbrev cL (f:Nat) (a:List Value) (w:World) (R:Value→World→Prop):Prop:=CALL tp f a w R
abbrev rD (m:Sem Value) (w:World) (K:Value→Prop):Prop:=RD tp m w K
abbrev oP (m:Sem Value) (w:World) (K:Value→World→Prop):Prop:=OP tp m w K
abbrev rL (t:Nat) (x:Value) (w:World) (K:Value→Prop):Prop:=RD tp (Instr.loadAt t x) w K
abbrev rF (t:Nat) (x:Value) (i:Nat) (w:World) (K:Value→Prop):Prop:=RD tp (Instr.fieldAt t x i) w K
abbrev rX (t:Nat) (x i:Value) (w:World) (K:Value→Prop):Prop:=RD tp (Instr.indexAt t x i) w K
abbrev rN (t y:Nat) (x:Value) (w:World) (K:Value→Prop):Prop:=RD tp (ln t y x) w K
abbrev rC (a b:Value) (w:World) (K:Value→Prop):Prop:=RD tp (bin .lss 3 T0 T0 a b) w K
abbrev rA (a b:Value) (w:World) (K:Value→Prop):Prop:=RD tp (bin .add 3 T0 U0 a b) w K
abbrev rB (o:BinOp) (t:Nat) (x y:Operand) (a b:Value) (w:World) (K:Value→Prop):Prop:=RD tp (bin o t x y a b) w K
abbrev oS (t:Nat) (x v:Value) (w:World) (K:World→Prop):Prop:=OPU tp (Instr.storeAt t x v) w K
abbrev oU (m:Sem Unit) (w:World) (K:World→Prop):Prop:=OPU tp m w K
abbrev rE (x:Value) (i:Nat) (w:World) (K:Value→Prop):Prop:=RD tp (Instr.extract x i) w K
theorem co {g:Cfg} {f:FuncId} {fn:Func} {args:List Value} {w:World} {R:VW} {F:Prop} (hf:tp.funcs[f]?=some fn) (hl:args.length.ble fn.ntmps=true) (hok:okF g 360 fn=true) (e:vcF tp g fn args w R=F) (h:F) (hg:g.ext=extL:=by rfl):CALL tp f args w R:=
 zp7 (hg▸ent) mixed hf (Nat.le_of_ble_eq_true hl) hok (e▸h)
def F240 (a0:Value) (w:World) (R:VW):Prop:=
 rB .geq 5 T0 U0 a0 (Value.int .u8 97) w fun x4=>
 BR x4
 (rB .leq 5 T0 U0 a0 (Value.int .u8 122) w fun x7=>
 R x7 w)
 (R (Value.bool false) w)
def cfg240:Cfg:=⟨extL,[],[],[],[],[],[]⟩
theorem F240_call {a0:Value} {w:World} {R:VW} (h:F240 a0 w R):cL 240 [a0] w R:=co (g:=cfg240) Tryz.func240 (by kernel_rfl) (by kernel_rfl) (by kernel_rfl) h
theorem zhm {w:World} {n:Nat}    :
   CALL Tryz.prog 240 [.int .u8 (n:Int)] w fun r w'=>Ext w w'∧(r=.bool (decide ((97:Int)≤(n:Int)∧(n:Int)≤122))):=by
 refine F240_call ?_
 unfold F240
 refine zdD ?_
 refine br (fun c1=>?_) (fun c1=>?_)
 · refine zeU ?_
   refine ⟨Ext.refl w,?_⟩
   simp [c1]
 refine ⟨Ext.refl w,?_⟩
 simp [c1]
def F241 (a0:Value) (w:World) (R:VW):Prop:=
 rB .geq 5 T0 U0 a0 (Value.int .u8 48) w fun x4=>
 BR x4
 (rB .leq 5 T0 U0 a0 (Value.int .u8 57) w fun x7=>
 R x7 w)
 (R (Value.bool false) w)
def cfg241:Cfg:=⟨extL,[],[],[],[],[],[]⟩
theorem F241_call {a0:Value} {w:World} {R:VW} (h:F241 a0 w R):cL 241 [a0] w R:=co (g:=cfg241) Tryz.func241 (by kernel_rfl) (by kernel_rfl) (by kernel_rfl) h
theorem zjY {w:World} {n:Nat}    :
   CALL Tryz.prog 241 [.int .u8 (n:Int)] w fun r w'=>Ext w w'∧(r=.bool (decide ((48:Int)≤(n:Int)∧(n:Int)≤57))):=by
 refine F241_call ?_
 unfold F241
 refine zdD ?_
 refine br (fun c1=>?_) (fun c1=>?_)
 · refine zeU ?_
   refine ⟨Ext.refl w,?_⟩
   simp [c1]
 refine ⟨Ext.refl w,?_⟩
 simp [c1]
theorem zkV {s:ByteArray} (h:0<s.size):(bts s).head?=some ((bts s)[0]'(by rw [za1];exact h)):=by
 rw [List.head?_eq_getElem?,List.getElem?_eq_getElem (by rw [za1];exact h)]
theorem zlN {s:ByteArray} (h:s.size=0):zgp s=false:=by
 have:bts s=[]:=List.eq_nil_of_length_eq_zero (by rw [za1];exact h)
 simp [zgp,this]
theorem zmU {s:ByteArray} (h:12<s.size):zgp s=false:=by
 simp [zgp,Nat.not_le.2 h]
theorem zmV {s:ByteArray} (h:0<s.size) (c:¬((97:Int)≤(((bts s)[0]'(by rw [za1];exact h)).toNat:Int)∧(((bts s)[0]'(by rw [za1];exact h)).toNat:Int)≤122)):zgp s=false:=by
 have:zjG ((bts s)[0]'(by rw [za1];exact h))=false:=by simp only [zjG,c,decide_false]
 simp [zgp,zkV h,this]
theorem zqg {s:ByteArray} {k:Nat} (h:k<s.size) (c1:¬((97:Int)≤(((bts s)[k]'(by rw [za1];exact h)).toNat:Int)∧(((bts s)[k]'(by rw [za1];exact h)).toNat:Int)≤122))
   (c2:¬((48:Int)≤(((bts s)[k]'(by rw [za1];exact h)).toNat:Int)∧(((bts s)[k]'(by rw [za1];exact h)).toNat:Int)≤57)):zgp s=false:=by
 have h1:zjG ((bts s)[k]'(by rw [za1];exact h))=false:=by simp only [zjG,c1,decide_false]
 have h2:zmT ((bts s)[k]'(by rw [za1];exact h))=false:=by simp only [zmT,c2,decide_false]
 have:(bts s).all (fun b=>zjG b || zmT b)=false:=by
   rw [List.all_eq_false]
   exact ⟨_,List.getElem_mem (by rw [za1];exact h),by simp [h1,h2]⟩
 simp [zgp,this]
theorem ziS {s:ByteArray} {k:Nat} (h:k<s.size) (hi:∀ b∈(bts s).take k,(zjG b || zmT b)=true) (c:zjG ((bts s)[k]'(by rw [za1];exact h))=true∨zmT ((bts s)[k]'(by rw [za1];exact h))=true) :
   ∀ b∈(bts s).take (k+1),(zjG b || zmT b)=true:=by
 rw [List.take_succ_eq_append_getElem (by rw [za1];exact h)]
 intro b hb
 rcases List.mem_append.1 hb with hb | hb
 · exact hi b hb
 simp only [List.mem_cons,List.not_mem_nil,or_false] at hb
 subst hb
 simpa using c
theorem zoA {s:ByteArray} {k:Nat} (h0:0<s.size) (h1:s.size≤12) (c:(97:Int)≤(((bts s)[0]'(by rw [za1];exact h0)).toNat:Int)∧(((bts s)[0]'(by rw [za1];exact h0)).toNat:Int)≤122) (hk:s.size≤k)
   (hi:∀ b∈(bts s).take k,(zjG b || zmT b)=true):zgp s=true:=by
 rw [List.take_of_length_le (by rw [za1];exact hk)] at hi
 have e1:zjG ((bts s)[0]'(by rw [za1];exact h0))=true:=by simp only [zjG,c,and_self,decide_true]
 have e2:(bts s).all (fun b=>zjG b || zmT b)=true:=List.all_eq_true.2 hi
 simp [zgp,zkV h0,e1,e2,h1]
def F176 (a0:Value) (w:World) (R:VW):Prop:=
 rN 9 3 a0 w fun x5=>
 rB .lss 3 T0 U0 x5 (iV 1) w fun x6=>
 BR x6
 (R (Value.bool false) w)
 (rN 9 3 a0 w fun x9=>
 rB .gtr 3 T0 U0 x9 (iV 12) w fun x10=>
 BR x10
 (R (Value.bool false) w)
 (rD (Instr.index 9 a0 (iV 0)) w fun x14=>
 cL 240 [x14] w fun x15 w=>
 rD (Op.unary .not x15) w fun x16=>
 BR x16
 (R (Value.bool false) w)
 (LOOPI [3] [(iV 0)] w fun u4 w next4=>
 rN 9 3 a0 w fun x20=>
 rC (u4 3) x20 w fun x21=>
 BR x21
 (rD (Instr.index 9 a0 (u4 3)) w fun x26=>
 cL 240 [x26] w fun x27 w=>
 rD (Op.unary .not x27) w fun x28=>
 BR x28
 (rD (Instr.index 9 a0 (u4 3)) w fun x32=>
 cL 241 [x32] w fun x33 w=>
 rD (Op.unary .not x33) w fun x34=>
 BR x34
 (R (Value.bool false) w)
 (rA (u4 3) (iV 1) w fun x23=>
 next4 [x23] w))
 (rA (u4 3) (iV 1) w fun x23=>
 next4 [x23] w))
 (rB .eql 9 T0 U0 a0 (Value.string (ByteArray.mk #[97,110,100])) w fun x38=>
 BR x38
 (R (Value.bool false) w)
 (rB .eql 9 T0 U0 a0 (Value.string (ByteArray.mk #[99,97,108,108])) w fun x39=>
 BR x39
 (R (Value.bool false) w)
 (rB .eql 9 T0 U0 a0 (Value.string (ByteArray.mk #[101,108,115,101])) w fun x40=>
 BR x40
 (R (Value.bool false) w)
 (rB .eql 9 T0 U0 a0 (Value.string (ByteArray.mk #[103,108,111,98,97,108,115])) w fun x41=>
 BR x41
 (R (Value.bool false) w)
 (rB .eql 9 T0 U0 a0 (Value.string (ByteArray.mk #[105,102])) w fun x42=>
 BR x42
 (R (Value.bool false) w)
 (rB .eql 9 T0 U0 a0 (Value.string (ByteArray.mk #[108,111,99,107])) w fun x43=>
 BR x43
 (R (Value.bool false) w)
 (rB .eql 9 T0 U0 a0 (Value.string (ByteArray.mk #[108,111,99,107,115])) w fun x44=>
 BR x44
 (R (Value.bool false) w)
 (rB .eql 9 T0 U0 a0 (Value.string (ByteArray.mk #[110,111,116])) w fun x45=>
 BR x45
 (R (Value.bool false) w)
 (rB .eql 9 T0 U0 a0 (Value.string (ByteArray.mk #[112,114,111,99])) w fun x46=>
 BR x46
 (R (Value.bool false) w)
 (rB .eql 9 T0 U0 a0 (Value.string (ByteArray.mk #[115,107,105,112])) w fun x47=>
 BR x47
 (R (Value.bool false) w)
 (rB .eql 9 T0 U0 a0 (Value.string (ByteArray.mk #[115,112,97,119,110])) w fun x48=>
 BR x48
 (R (Value.bool false) w)
 (rB .eql 9 T0 U0 a0 (Value.string (ByteArray.mk #[117,110,108,111,99,107])) w fun x49=>
 BR x49
 (R (Value.bool false) w)
 (rB .eql 9 T0 U0 a0 (Value.string (ByteArray.mk #[119,104,105,108,101])) w fun x50=>
 BR x50
 (R (Value.bool false) w)
 (R (Value.bool true) w)))))))))))))))))
def cfg176:Cfg:=⟨extL,[],[(4,68719214604,[3])],[],[],[],[]⟩
theorem F176_call {a0:Value} {w:World} {R:VW} (h:F176 a0 w R):cL 176 [a0] w R:=co (g:=cfg176) Tryz.func176 (by kernel_rfl) (by kernel_rfl) (by kernel_rfl) h
theorem za5 {w:World} {s:ByteArray}    :
   CALL Tryz.prog 176 [.string s] w fun r w'=>Ext w w'∧(r=.bool (za9 s)):=by
 refine F176_call ?_
 unfold F176
 refine zjQ u9 ?_
 refine zal ?_
 refine br (fun c1=>?_) (fun c1=>?_)
 · refine ⟨Ext.refl w,?_⟩
   simp [za9,zlN (s:=s) (by omega)]
 refine zjQ u9 ?_
 refine zdP ?_
 refine br (fun c2=>?_) (fun c2=>?_)
 · refine ⟨Ext.refl w,?_⟩
   simp [za9,zmU (s:=s) (by omega)]
 refine zge (i:=0) u9 (by omega) ?_
 refine (zhm ).mono ?_
 rintro _ w1_ ⟨hx1_,rfl⟩
 refine zbw ?_
 refine br (fun c3=>?_) (fun c3=>?_)
 · refine ⟨hx1_,?_⟩
   simp [za9,zmV (s:=s) (by omega) c3]
 refine zaE (s.size) (fun k us w'=>us=[.int .i64 (k:Int)]∧Ext w1_ w'∧(∀ b∈(bts s).take k,(zjG b || zmT b)=true)) (0) (by omega) ⟨by simp,Ext.refl w1_,by simp⟩ ?_
 rintro k m4 uu4 w2_ hk4 ⟨hu,hx2_,hinv⟩
 simp only [List.map_cons,List.map_nil,List.cons.injEq,and_true] at hu
 try rw [hu]
 try clear hu
 refine zjQ u9 ?_
 refine zal ?_
 refine br (fun c4=>?_) (fun c4=>?_)
 · refine zge u9 (by omega) ?_
   refine (zhm ).mono ?_
   rintro _ w3_ ⟨hx3_,rfl⟩
   refine zbw ?_
   refine br (fun c5=>?_) (fun c5=>?_)
   · refine zge u9 (by omega) ?_
     refine (zjY ).mono ?_
     rintro _ w4_ ⟨hx4_,rfl⟩
     refine zbw ?_
     refine br (fun c6=>?_) (fun c6=>?_)
     · refine ⟨(hx1_.trans (hx2_.trans (hx3_.trans hx4_))),?_⟩
       simp [za9,zqg (s:=s) (by omega) c5 c6]
     refine zag (by omega) ?_
     refine ⟨m4-1,by omega,k+1,by omega,by simp,(hx2_.trans (hx3_.trans hx4_)),?_⟩
     exact ziS (by omega) hinv (.inr (by simp only [zmT,Decidable.not_not.1 c6,and_self,decide_true]))
   refine zag (by omega) ?_
   refine ⟨m4-1,by omega,k+1,by omega,by simp,(hx2_.trans hx3_),?_⟩
   exact ziS (by omega) hinv (.inl (by simp only [zjG,Decidable.not_not.1 c5,and_self,decide_true]))
 refine zbi ?_
 refine br (fun c7=>?_) (fun c7=>?_)
 · refine ⟨(hx1_.trans hx2_),?_⟩
   have hm:s∈kw:=by simp only [kw,List.mem_cons, *,true_or,or_true]
   simp [za9,hm]
 refine zbi ?_
 refine br (fun c8=>?_) (fun c8=>?_)
 · refine ⟨(hx1_.trans hx2_),?_⟩
   have hm:s∈kw:=by simp only [kw,List.mem_cons, *,true_or,or_true]
   simp [za9,hm]
 refine zbi ?_
 refine br (fun c9=>?_) (fun c9=>?_)
 · refine ⟨(hx1_.trans hx2_),?_⟩
   have hm:s∈kw:=by simp only [kw,List.mem_cons, *,true_or,or_true]
   simp [za9,hm]
 refine zbi ?_
 refine br (fun c10=>?_) (fun c10=>?_)
 · refine ⟨(hx1_.trans hx2_),?_⟩
   have hm:s∈kw:=by simp only [kw,List.mem_cons, *,true_or,or_true]
   simp [za9,hm]
 refine zbi ?_
 refine br (fun c11=>?_) (fun c11=>?_)
 · refine ⟨(hx1_.trans hx2_),?_⟩
   have hm:s∈kw:=by simp only [kw,List.mem_cons, *,true_or,or_true]
   simp [za9,hm]
 refine zbi ?_
 refine br (fun c12=>?_) (fun c12=>?_)
 · refine ⟨(hx1_.trans hx2_),?_⟩
   have hm:s∈kw:=by simp only [kw,List.mem_cons, *,true_or,or_true]
   simp [za9,hm]
 refine zbi ?_
 refine br (fun c13=>?_) (fun c13=>?_)
 · refine ⟨(hx1_.trans hx2_),?_⟩
   have hm:s∈kw:=by simp only [kw,List.mem_cons, *,true_or,or_true]
   simp [za9,hm]
 refine zbi ?_
 refine br (fun c14=>?_) (fun c14=>?_)
 · refine ⟨(hx1_.trans hx2_),?_⟩
   have hm:s∈kw:=by simp only [kw,List.mem_cons, *,true_or,or_true]
   simp [za9,hm]
 refine zbi ?_
 refine br (fun c15=>?_) (fun c15=>?_)
 · refine ⟨(hx1_.trans hx2_),?_⟩
   have hm:s∈kw:=by simp only [kw,List.mem_cons, *,true_or,or_true]
   simp [za9,hm]
 refine zbi ?_
 refine br (fun c16=>?_) (fun c16=>?_)
 · refine ⟨(hx1_.trans hx2_),?_⟩
   have hm:s∈kw:=by simp only [kw,List.mem_cons, *,true_or,or_true]
   simp [za9,hm]
 refine zbi ?_
 refine br (fun c17=>?_) (fun c17=>?_)
 · refine ⟨(hx1_.trans hx2_),?_⟩
   have hm:s∈kw:=by simp only [kw,List.mem_cons, *,true_or,or_true]
   simp [za9,hm]
 refine zbi ?_
 refine br (fun c18=>?_) (fun c18=>?_)
 · refine ⟨(hx1_.trans hx2_),?_⟩
   have hm:s∈kw:=by simp only [kw,List.mem_cons, *,true_or,or_true]
   simp [za9,hm]
 refine zbi ?_
 refine br (fun c19=>?_) (fun c19=>?_)
 · refine ⟨(hx1_.trans hx2_),?_⟩
   have hm:s∈kw:=by simp only [kw,List.mem_cons, *,true_or,or_true]
   simp [za9,hm]
 refine ⟨(hx1_.trans hx2_),?_⟩
 have hm:s∉kw:=by simp only [kw,List.mem_cons,List.not_mem_nil,or_false, *,not_false_eq_true]
 simp [za9,hm,zoA (by omega) (by omega) (Decidable.not_not.1 c3) (by omega) hinv]
end Go.Proofs.YtcnglfeoglgebaaGreat
namespace Go.Sh
open Go.RowKit (Below)
open Rep (rep)
theorem zfW (off:Nat):∀ (l:List Value) (k:Nat) (cs:Array Value),
   ((l.zipIdx k).foldl (fun (cs:Array Value) (p:Value×Nat)=>cs.setIfInBounds (off+p.2) p.1) cs).size=cs.size ∧
   ∀ i,((l.zipIdx k).foldl (fun (cs:Array Value) (p:Value×Nat)=>cs.setIfInBounds (off+p.2) p.1) cs)[i]?=if off+k≤i∧i<off+k+l.length∧i<cs.size then l[i-(off+k)]? else cs[i]?
 | [],k,cs=>by
   refine ⟨rfl,fun i=>?_⟩
   rw [if_neg (by simp;omega)]
   rfl
 | v :: l,k,cs=>by
   obtain ⟨h1,h2⟩:=zfW off l (k+1) (cs.setIfInBounds (off+k) v)
   simp only [List.zipIdx_cons,List.foldl_cons]
   refine ⟨by rw [h1];simp,fun i=>?_⟩
   rw [h2]
   simp only [Array.size_setIfInBounds,List.length_cons]
   by_cases hi:i=off+k
   · subst hi
     rw [if_neg (by omega)]
     by_cases hs:off+k<cs.size
     · rw [if_pos (by omega)];simp [hs]
     rw [if_neg (by omega),Array.getElem?_eq_none (by rw [Array.size_setIfInBounds];omega),Array.getElem?_eq_none (by omega)]
   by_cases hr:off+(k+1)≤i∧i<off+(k+1)+l.length∧i<cs.size
   · rw [if_pos hr,if_pos (by omega)]
     have:i-(off+k)=(i-(off+(k+1)))+1:=by omega
     rw [this,List.getElem?_cons_succ]
   rw [if_neg hr,if_neg (by omega),Array.getElem?_setIfInBounds_ne (by omega)]
theorem zkW (v:Value) (cells:Array Value) (s:Nat) (hv:v.cells.size=s) (hc:cells.size=s):Instr.fill (fun i=>some (i*s,s)) cells [(0,v)]=some v.cells:=by
 unfold Instr.fill
 simp only [Nat.zero_mul]
 rw [if_neg (by simp;omega)]
 unfold Instr.fill
 congr 1
 obtain ⟨h1,h2⟩:=zfW 0 v.cells.toList 0 cells
 have e:v.cells.zipIdx.foldl (fun (cs:Array Value) (x:Value×Nat)=>match x with | (c,j)=>cs.setIfInBounds (0+j) c) cells
     = (v.cells.toList.zipIdx 0).foldl (fun (cs:Array Value) (p:Value×Nat)=>cs.setIfInBounds (0+p.2) p.1) cells:=by
   rw [←Array.foldl_toList,Array.toList_zipIdx]
 rw [e]
 apply Array.ext_getElem?
 intro i
 rw [h2]
 by_cases hi:i<s
 · rw [if_pos (by simp;omega)];simp
 rw [if_neg (by simp;omega),Array.getElem?_eq_none (by omega),Array.getElem?_eq_none (by omega)]
section
variable {w w' w'':World} {lo hi a b:Nat}
end
def RowI {α:Type} [Rep α] (lo hi:Nat) (e:TypeId) (w:World) (v:Value) (l:List α):Prop:=(∃ a,v=.slice a 0 0∧l=[])∨∃ F,RowF F e w v l∧F.Nodup∧∀ b∈F,lo≤b∧b<hi
section
variable {P:Program} {w w0 w':World} {α:Type} [Rep α] {lo hi a b e:Nat} {v:Value} {l:List α}
theorem zgq (a:Option Addr):OwnI (α:=List α) lo hi w (.slice a 0 0) []:=
 ⟨[],⟨⟨_,⟨a,0,[],[],rfl,Nat.le_refl _,Nat.zero_le _,⟨rfl,rfl⟩,.inl ⟨rfl,rfl⟩⟩,rfl⟩,List.nodup_nil,Wr.nil w⟩,by simp⟩
theorem RowI.ext (h:RowI lo hi e w v l) (hx:Ext w w'):RowI lo hi e w' v l:=by
 rcases h with h | ⟨F,h1,h2,h3⟩
 · exact .inl h
 exact .inr ⟨F,h1.ext hx,h2,h3⟩
theorem RowI.chg (h:RowI lo hi e w v l) (hc:ChgI a b w w') (hd:hi≤a∨b≤lo):RowI lo hi e w' v l:=by
 rcases h with h | ⟨F,h1,h2,h3⟩
 · exact .inl h
 exact .inr ⟨F,h1.keep fun c hcm=>hc.block c (h1.lt c hcm) (by have:=h3 c hcm;omega),h2,h3⟩
theorem RowI.own (h:RowI lo hi e w v l):OwnI lo hi w v l:=by
 rcases h with ⟨a,rfl,rfl⟩ | ⟨F,h1,h2,h3⟩
 · exact zgq a
 exact ⟨F,⟨h1.own,h2,h1.wr⟩,h3⟩
theorem RowI.is (h:RowI lo hi e w v l):Is w v l:=h.own.is
theorem RowI.mono {lo' hi':Nat} (h:RowI lo hi e w v l) (h1:lo'≤lo) (h2:hi≤hi'):RowI lo' hi' e w v l:=by
 rcases h with h | ⟨F,h1,h2,h3⟩
 · exact .inl h
 exact .inr ⟨F,h1,h2,fun b hb=>by have:=h3 b hb;omega⟩
theorem zgr (lo hi e:Nat) (w:World) (a:Option Addr):RowI (α:=α) lo hi e w (.slice a 0 0) []:=.inl ⟨a,rfl,rfl⟩
theorem zb2 (lo hi e:Nat) (w:World):RowI (α:=α) lo hi e w (.slice none 0 0) []:=.inl ⟨none,rfl,rfl⟩
theorem zgs (e:Nat) (w:World):RowF (α:=α) [] e w (.slice none 0 0) []:=⟨[],[],⟨by simp,.inl ⟨rfl,rfl⟩⟩,⟨rfl,rfl⟩,rfl,Wr.nil _⟩
theorem zhX {m1 m2:Sem Value} {K:Value→World→Prop} (h:m1.run P w=m2.run P w) (k:OP P m2 w K):OP P m1 w K:=by
 obtain ⟨v,w',hr,hk⟩:=k;exact ⟨v,w',h.trans hr,hk⟩
theorem zez {t ty:TypeId} {by_ n c:Nat} {x:Addr} {b o:Nat} {xs:List Value} (ht:P.underlying t=some (.slice e)) (he:tyI P e=some (Rep.size α,by_,Rep.agg α)) (hzc:(P.info? e).map (fun i=>(i.zero.map (·.cells.size)))=some (some (Rep.size α)))
   (hl:xs.length=n*Rep.size α) (hr:w.rangeAt b o xs) (h0:0<n) (hm:n≤maxLen) (hb:n*by_≤140737488355328) :
   (Builtin.append_ #[t,t] ty #[.slice (some x) 0 0,.slice (some ⟨b,o,none⟩) n c]).run P w=(Builtin.append_ #[t,t] ty #[.slice none 0 0,.slice (some ⟨b,o,none⟩) n c]).run P w:=by
 obtain ⟨i,d,hi,hd,hs,hby,hg⟩:=zbj he
 simp only [hi,Option.map_some,Option.some.injEq] at hzc
 obtain ⟨z,hz,hzs⟩:=Option.map_eq_some_iff.1 hzc
 rw [zak] at hm
 have h1:=run_append_nil (P:=P) w t ty e i z ht hi hz ⟨b,o,none⟩ n c xs (by rw [hs];exact hl) (fun j u hu=>by rw [Addr.add_mid];exact hr j u hu) h0 (by omega) (by rw [hby];omega)
 have h2:=run_append_grow (P:=P) w t ty e i z ht hi hz x 0 0 [] (by simp) (by simp) ⟨b,o,none⟩ n c xs (by rw [hs];exact hl) (fun j u hu=>by rw [Addr.add_mid];exact hr j u hu) (by omega) (by omega) (growslice_fits (by omega) (by rw [hby];simpa using hb))
 rw [h1,h2]
 simp
theorem zeZ {t:TypeId} {by_:Nat} {u:Value} {x:α} {K:Value→World→Prop} (ht:P.underlying t=some (.slice e)) (he:tyI P e=some (Rep.size α,by_,Rep.agg α)) (hz:zbd P e=true) (hsz:Rep.size α≤1000)
   {F:List Nat} (hx:Mine F w u x)
   (k:∀ w',Ext w w'→Mine (w.heap.size :: F) w' (.slice (some ⟨w.heap.size,0,none⟩) 1 1) [x]→K (.slice (some ⟨w.heap.size,0,none⟩) 1 1) w'):OP P (Instr.buildSlice t 1 #[(0,u)]) w K:=by
 obtain ⟨⟨cs,hr,rfl⟩,hn,hw⟩:=hx
 have hcl:=zcF hr
 have hlen:=Rep.len hr
 have hvs:(mkv α cs).cells.size=Rep.size α:=by rw [←Array.length_toList,hcl,hlen]
 obtain ⟨i,d,hi,hd,hs,hby,hg⟩:=zbj he
 unfold zbd at hz
 rw [hi] at hz
 obtain ⟨z,hz⟩:=Option.isSome_iff_exists.1 hz
 have hpos:=Rep.pos (α:=α)
 refine ⟨_,w.alloc (.cells (mkv α cs).cells e),?_,k _ (zaw w _) ?_⟩
 · have hne:¬Rep.size α=0:=by omega
   have h24:¬2^24<Rep.size α:=by omega
   simp only [Instr.buildSlice,Sem.run_bind,run_underlying ht,Result.andThen_ok,zar he,Nat.one_mul]
   simp [h24,hne,zeroValue,typeInfo,hi,hz,zkW _ _ _ hvs,newRow]
 have hx:=zaw w (.cells (mkv α cs).cells e)
 have hB:(w.alloc (.cells (mkv α cs).cells e)).heap[w.heap.size]?=some (.cells (mkv α cs).cells e (0,0)):=heap_alloc_new w _
 have hFlt:=Rep.lt hr
 refine ⟨⟨_,⟨_,1,F,cs,rfl,Nat.le_refl _,by rw [zak];omega,Cells.single (zaP hr hx),.inr ⟨w.heap.size,0,rfl,rfl,?_,?_⟩⟩,rfl⟩,?_,?_⟩
 · intro j y hy
   simp only [World.cell?,hB]
   rw [←hcl] at hy
   simpa using hy
 · exact (Array.getElem?_eq_some_iff.1 hB).1
 · exact List.nodup_cons.2 ⟨fun h=>by have:=hFlt _ h;omega,hn⟩
 intro c hc
 rcases List.mem_cons.1 hc with rfl | hc
 · exact ⟨_,_,hB⟩
 exact hw.ext hx c hc
theorem zlO {t:TypeId} {by_:Nat} {u:Value} {x:α} {K:Value→World→Prop} (ht:P.underlying t=some (.slice e)) (he:tyI P e=some (Rep.size α,by_,Rep.agg α)) (hz:zbd P e=true) (hsz:Rep.size α≤1000)
   (hx:OwnI lo hi w u x) (hlo:lo≤w.heap.size)
   (k:∀ v w',Ext w w'→OwnI lo w'.heap.size w' v [x]→K v w'):OP P (Instr.buildSlice t 1 #[(0,u)]) w K:=by
 obtain ⟨F,hm,hF⟩:=hx
 refine zeZ ht he hz hsz hm fun w' hxx hm'=>k _ w' hxx ⟨_,hm',fun b hb=>⟨?_,hm'.lt b hb⟩⟩
 rcases List.mem_cons.1 hb with rfl | hb
 · exact hlo
 exact (hF b hb).1
theorem zcx {t:TypeId} {by_:Nat} {K:Value→World→Prop} (ht:P.underlying t=some (.slice e)) (he:tyI P e=some (Rep.size α,by_,Rep.agg α))
   (k:∀ a w',Ext w w'→RowI (α:=α) w'.heap.size w'.heap.size e w' (.slice (some a) 0 0) []→K (.slice (some a) 0 0) w'):OP P (Instr.buildSlice t 0 #[]) w K:=
 zmE (α:=α) ht he fun a w' hx hr=>k _ w' hx (zgr _ _ _ _ _)
theorem zoB {t ty:TypeId} {by_:Nat} {u:Value} {x:α} {lo2 hi2:Nat} {K C:Value→World→Prop} (ht:P.underlying t=some (.slice e)) (he:tyI P e=some (Rep.size α,by_,Rep.agg α)) (hz:zbd P e=true)
   (hzc:(P.info? e).map (fun i=>(i.zero.map (·.cells.size)))=some (some (Rep.size α))) (hsz:Rep.size α≤1000) (hv:RowI lo hi e w v l) (hlo:lo≤w.heap.size) (hx:OwnI lo2 hi2 w u x) (hl:hi≤lo2) (hl2:lo≤lo2) (hm:l.length+1≤maxLen) (hb:(l.length+1)*by_≤140737488355328)
   (k:∀ v' w',ChgI lo hi w w'→RowI lo w'.heap.size e w' v' (l++[x])→K v' w')
   (hC:∀ s w1,Ext w w1→OP P (Builtin.append_ #[t,t] ty [v,s].toArray) w1 K→C s w1):OP P (Instr.buildSlice t 1 #[(0,u)]) w C:=by
 obtain ⟨G,hmx,hG⟩:=hx
 refine zeZ ht he hz hsz hmx fun w1 hx1 hm1=>?_
 obtain ⟨⟨cs,⟨a,cap,Fi,xs,rfl,h1,h2,hc,h4⟩,hveq⟩,hn1,hw1⟩:=hm1
 simp only [mkv,Rep.agg,cond_false,List.headD_cons,Value.slice.injEq,List.length_cons,List.length_nil] at hveq
 obtain ⟨rfl,_,rfl⟩:=hveq
 rcases h4 with ⟨h4,_⟩ | ⟨b,o,hab,hFe,hra,hbl⟩
 · simp at h4
 simp only [List.cons.injEq] at hFe
 obtain ⟨_,rfl⟩:=hFe
 have key:∀ (v:Value) (F:List Nat),RowF F e w v l→F.Nodup→(∀ b∈F,lo≤b∧b<hi)→OP P (Builtin.append_ #[t,t] ty [v,.slice (some ⟨w.heap.size,0,none⟩) 1 1].toArray) w1 K:=by
   intro v F hF hFn hFl
   have hF1:=hF.ext hx1
   have hd:(G++F).Nodup:=by
     rw [List.nodup_append]
     refine ⟨hmx.nodup,hFn,fun p hp q hq e=>?_⟩
     subst e
     have:=hG p hp
     have:=hFl p hq
     omega
   refine zeW (m:=[x]) ht he hzc hF1 hFn rfl hc (.inr ⟨b,o,hab,hra⟩) (hw1.sub (by simp +contextual)) hd (by simpa using hm) (by simpa using hb) fun v' w' F' hch hfull hr' hn' hs'=>?_
   have hown:∀ c∈v.ownBlock.toList,lo≤c∧c<hi:=fun c hc=>by
     obtain ⟨xs,Fi,_,_,rfl,_⟩:=hF
     exact hFl c (by simp only [List.mem_append];exact .inl hc)
   refine k v' w' ((Ext.toI hx1).trans (hch.toI hown)) (.inr ⟨F',hr',hn',fun c hc=>⟨?_,hr'.lt c hc⟩⟩)
   rcases hs' c hc with h | h | h
   · exact (hFl c h).1
   · have:=hG c h;omega
   have:=hx1.size;omega
 refine hC _ w1 hx1 ?_
 rcases hv with ⟨a0,rfl,rfl⟩ | ⟨F,hF,hFn,hFl⟩
 · have kn:=key (.slice none 0 0) [] (zgs e w) List.nodup_nil (by simp)
   cases a0 with
   | none=>exact kn
   | some x0=>
     simp only [Option.some.injEq,Addr.mk.injEq] at hab
     obtain ⟨rfl,rfl,_⟩:=hab
     exact zhX (zez (α:=α) (n:=1) ht he hzc (by simpa using Cells.len hc) hra (by omega) (by rw [zak];omega) (by simpa using hb)) kn
 exact key v F hF hFn hFl
theorem zdt {t ty:TypeId} {by_:Nat} {u:Value} {x:α} {lo2 hi2:Nat} {K:Value→World→Prop} (ht:P.underlying t=some (.slice e)) (he:tyI P e=some (Rep.size α,by_,Rep.agg α)) (hz:zbd P e=true)
   (hzc:(P.info? e).map (fun i=>(i.zero.map (·.cells.size)))=some (some (Rep.size α))) (hsz:Rep.size α≤1000) (hv:RowI lo hi e w v l) (hlo:lo≤w.heap.size) (hx:OwnI lo2 hi2 w u x) (hl:hi≤lo2) (hl2:lo≤lo2) (hm:l.length+1≤maxLen) (hb:(l.length+1)*by_≤140737488355328)
   (k:∀ v' w',ChgI lo hi w w'→RowI lo w'.heap.size e w' v' (l++[x])→K v' w'):OP P (Instr.buildSlice t 1 #[(0,u)]) w fun s w1=>OP P (Builtin.append_ #[t,t] ty [v,s].toArray) w1 K:=
 zoB ht he hz hzc hsz hv hlo hx hl hl2 hm hb k fun _ _ _ h=>h
theorem zfr [Flat α] {t ty:TypeId} {by_:Nat} {src:Value} {m:List α} {K:Value→World→Prop} (ht:P.underlying t=some (.slice e)) (he:tyI P e=some (Rep.size α,by_,Rep.agg α))
   (hzc:(P.info? e).map (fun i=>(i.zero.map (·.cells.size)))=some (some (Rep.size α))) (hv:RowI lo hi e w v l) (hlo:lo≤w.heap.size) (hs:Is w0 src m) (hx:Ext w0 w) (hm:l.length+m.length≤maxLen) (hb:(l.length+m.length)*by_≤140737488355328)
   (k:∀ v' w',ChgI lo hi w w'→RowI lo w'.heap.size e w' v' (l++m)→K v' w'):OP P (Builtin.append_ #[t,t] ty [v,src].toArray) w K:=by
 obtain ⟨a,cap,Fi,xs,rfl,h1,h2,hc,h4⟩:=zcf (hs.ext hx)
 have hFi:=Cells.flat (xs:=xs) hc
 subst hFi
 have key:∀ (v:Value) (F:List Nat),RowF F e w v l→F.Nodup→(∀ b∈F,lo≤b∧b<hi)→OP P (Builtin.append_ #[t,t] ty [v,.slice a m.length cap].toArray) w K:=by
   intro v F hF hFn hFl
   refine zeW (m:=m) ht he hzc hF hFn rfl hc (by rcases h4 with h | ⟨b,o,ha,hr,_⟩;exact .inl h;exact .inr ⟨b,o,ha,hr⟩) (Wr.nil _) (by simpa using hFn) hm hb fun v' w' F' hch hfull hr' hn' hs'=>?_
   have hown:∀ c∈v.ownBlock.toList,lo≤c∧c<hi:=fun c hc=>by
     obtain ⟨xs,Fi,_,_,rfl,_⟩:=hF
     exact hFl c (by simp only [List.mem_append];exact .inl hc)
   refine k v' w' (hch.toI hown) (.inr ⟨F',hr',hn',fun c hc=>⟨?_,hr'.lt c hc⟩⟩)
   rcases hs' c hc with h | h | h
   · exact (hFl c h).1
   · simp at h
   omega
 rcases hv with ⟨a0,rfl,rfl⟩ | ⟨F,hF,hFn,hFl⟩
 · have kn:=key (.slice none 0 0) [] (zgs e w) List.nodup_nil (by simp)
   cases a0 with
   | none=>exact kn
   | some x0=>
     by_cases hm0:m=[]
     · subst hm0
       refine ⟨.slice (some x0) 0 0,w,?_,k _ w (ChgI.refl w) (zgr _ _ _ _ _)⟩
       have hf:(Builtin.firstCells (Rep.size α) 0 (.slice a 0 cap)).run P w=.ok #[] w:=by
         cases a with
         | none=>rfl
         | some a=>simp [Builtin.firstCells,loadCells,loadCellsFrom]
       simp [Builtin.append_,run_underlying ht,zar he,Builtin.lenOf,hf,storeCells]
     rcases h4 with h | ⟨b,o,rfl,hr,_⟩
     · exact absurd h hm0
     exact zhX (zez (α:=α) ht he hzc (Cells.len hc) hr (List.length_pos_iff.2 hm0) (by simpa using hm) (by simpa using hb)) kn
 exact key v F hF hFn hFl
theorem zqh {a:Option Addr} {cap:Nat} {l:List α} (h:Is w (.slice a l.length cap) l) (k:Nat) (hk:k≤l.length):Is w (.slice a k cap) (l.take k):=by
 obtain ⟨F,cs,⟨a',cap',Fi,xs,rfl,h1,h2,hc,h4⟩,hv⟩:=h
 simp only [mkv,Rep.agg,cond_false,List.headD_cons,Value.slice.injEq] at hv
 obtain ⟨rfl,_,rfl⟩:=hv
 have e:l=l.take k++l.drop k:=by simp
 have hlen:(l.take k).length=k:=by simp;omega
 rw [e] at hc
 obtain ⟨F1,F2,x1,x2,rfl,rfl,c1,c2⟩:=Cells.split hc
 by_cases hd:l.take k=[]
 · refine ⟨[],_,⟨a,cap,F1,x1,rfl,by rw [hlen];omega,h2,c1,.inl ⟨hd,rfl⟩⟩,?_⟩
   rw [hlen];rfl
 rcases h4 with ⟨rfl,_⟩ | ⟨b,o,rfl,rfl,hr,hb⟩
 · simp at hd
 refine ⟨_,_,⟨some ⟨b,o,none⟩,cap,F1,x1,rfl,by rw [hlen];omega,h2,c1,.inr ⟨b,o,rfl,rfl,(zaq hr).1,hb⟩⟩,?_⟩
 rw [hlen];rfl
theorem zhY {t:TypeId} {by_:Nat} {v:Value} {l:List α} {i j:Int} {K:Value→Prop} (ht:P.underlying t=some (.slice e)) (he:tyI P e=some (Rep.size α,by_,Rep.agg α)) (h:Is w0 v l) (h0:0≤i) (h1:i≤j) (h2:j.toNat≤l.length)
   (k:∀ v',Is w0 v' ((l.take j.toNat).drop i.toNat)→K v'):RD P (Instr.sliceAt t v (some (.int .i64 i)) (some (.int .i64 j)) none) w K:=by
 obtain ⟨a,cap,Fi,xs,rfl,hc1,hcm,_,h4⟩:=zcf h
 have hb:∀ w',(Instr.sliceBounds true l.length cap (some (.int .i64 i)) (some (.int .i64 j)) none).run P w'=.ok (i.toNat,j.toNat,cap) w':=fun w'=>by
   have h3:j≤(cap:Int):=by omega
   have h5:0≤j:=by omega
   simp [Instr.sliceBounds,Instr.sliceBound,asIntOf,h0,h1,h3,h5]
   intro h6
   omega
 have hl:(l.take j.toNat).length=j.toNat:=by rw [List.length_take];omega
 have ht1:Is w0 (.slice a (l.take j.toNat).length cap) (l.take j.toNat):=by rw [hl];exact zqh h j.toNat h2
 have hd:=zmC ht1 i.toNat (by omega) (Rep.size α) rfl
 rw [hl] at hd
 refine zaF (fun w' _=>?_) (k _ hd)
 simp only [Instr.sliceAt,Instr.slice,Sem.run_bind,run_underlying ht,Result.andThen_ok,hb,zar he]
 simp
def AtB {α:Type} [Rep α] (W w:World) (b o:Nat) (x:α):Prop:=∃ F cs,rep F W cs x∧w.rangeAt b o cs
theorem AtB.keep {W w':World} {b o:Nat} {x:α} (h:AtB W w b o x) (hb:w'.heap[b]?=w.heap[b]?):AtB W w' b o x:=by
 obtain ⟨F,cs,hr,ha⟩:=h;exact ⟨F,cs,hr,zaS ha hb⟩
theorem AtB.ext {W:World} {b o:Nat} {x:α} (h:AtB W w b o x) (hx:Ext w w'):AtB W w' b o x:=by
 obtain ⟨F,cs,hr,ha⟩:=h;exact ⟨F,cs,hr,za8 ha hx⟩
theorem AtB.at {W:World} {b o:Nat} {x:α} (h:AtB W w b o x) (hx:Ext W w):At w b o x:=by
 obtain ⟨F,cs,hr,ha⟩:=h;exact ⟨F,cs,zaP hr hx,ha⟩
theorem AtB.fst {β:Type} [Rep β] {W:World} {b o:Nat} {p:α×β} (h:AtB W w b o p):AtB W w b o p.1:=by
 obtain ⟨F,cs,⟨F1,F2,c1,c2,rfl,rfl,h1,h2⟩,hr⟩:=h
 exact ⟨F1,c1,h1,(zaq hr).1⟩
theorem AtB.snd {β:Type} [Rep β] {W:World} {b o:Nat} {p:α×β} (h:AtB W w b o p):AtB W w b (o+Rep.size α) p.2:=by
 obtain ⟨F,cs,⟨F1,F2,c1,c2,rfl,rfl,h1,h2⟩,hr⟩:=h
 have:=(zaq hr).2
 rw [Rep.len h1] at this
 exact ⟨F2,c2,h2,this⟩
theorem zb9 {W:World} {t by_ b o:Nat} {x:α} {K:Value→Prop} (ht:tyI P t=some (Rep.size α,by_,Rep.agg α)) (h:AtB W w0 b o x) (hW:Ext W w0) (hx:Ext w0 w) (k:∀ v,Is W v x→K v) :
   RD P (Instr.loadAt t (.pointer (some ⟨b,o,none⟩))) w K:=by
 obtain ⟨F,cs,hr,hc⟩:=h
 exact zaF (fun w' hx'=>zdq ht (zaP hr (hW.trans (hx.trans hx'))) (za8 hc (hx.trans hx'))) (k _ ⟨F,cs,hr,rfl⟩)
theorem zeA {W w1:World} {g:Nat} {x:α} {t:TypeId} (h:Is W v x) (hV:Var P t w1 g v) (ha:Rep.agg α=true):AtB W w1 g 0 x:=by
 obtain ⟨F,cs,hr,rfl⟩:=h
 obtain ⟨e,cs',_,hB,hv,_⟩:=hV
 have:cs'=cs:=by
   simp only [mkv,ha,cond_true,Value.agg.injEq] at hv
   have:=congrArg Array.toList hv
   simpa using this.symm
 subst this
 exact ⟨F,_,hr,hB.range⟩
end
end Go.Sh
namespace Go.Proofs.YtcnglfeoglgebaaGreat
open Go Go.Sh Go.Proofs
open Rep (rep)
def zaX:Nat→DTerm→Bool
 | n,.mk k num s ks=>
   if k=1 then decide (0≤num∧num≤1000000000)&&decide (s=ByteArray.mk #[])&&decide ((ks.length:Int)=0)
   else if k=2 then decide (num=0)&&za9 s&&decide ((ks.length:Int)=0)
   else decide (3≤k∧k≤9)&&decide (num=0)&&decide (s=ByteArray.mk #[])&&decide ((ks.length:Int)=if k=8 then 1 else 2) &&
     (match n with | 0=>false | m+1=>ks.all (zaX m))
theorem zea {n:Nat} {t:DTerm} (h:t.kind=1):zaX n t=(decide (0≤t.num∧t.num≤1000000000)&&decide (t.name=ByteArray.mk #[])&&decide ((t.kids.length:Int)=0)):=by
 obtain ⟨k,num,s,ks⟩:=t
 have:k=1:=h
 unfold zaX;rw [if_pos this];rfl
theorem zfX {n:Nat} {t:DTerm} (h:t.kind=2):zaX n t=(decide (t.num=0)&&za9 t.name&&decide ((t.kids.length:Int)=0)):=by
 obtain ⟨k,num,s,ks⟩:=t
 have:k=2:=h
 unfold zaX;rw [if_neg (by omega),if_pos this];rfl
theorem zba {n:Nat} {t:DTerm} (h1:¬t.kind=1) (h2:¬t.kind=2):zaX n t =
   (decide (3≤t.kind∧t.kind≤9)&&decide (t.num=0)&&decide (t.name=ByteArray.mk #[])&&decide ((t.kids.length:Int)=if t.kind=8 then 1 else 2)&&(match n with | 0=>false | m+1=>t.kids.all (zaX m))):=by
 obtain ⟨k,num,s,ks⟩:=t
 have h1:¬k=1:=h1
 have h2:¬k=2:=h2
 unfold zaX;rw [if_neg h1,if_neg h2];rfl
theorem zkX {α:Type} {p:α→Bool} {l:List α} {k:Nat} (hk:k<l.length) (h:(l.take k).all p=true) (hp:p l[k]=true):(l.take (k+1)).all p=true:=by
 rw [List.take_succ_eq_append_getElem hk,List.all_append,h];simp [hp]
theorem ziT {α:Type} {p:α→Bool} {l:List α} {k:Nat} (hk:k<l.length) (hp:p l[k]=false):l.all p=false:=by
 rw [List.all_eq_false];exact ⟨_,List.getElem_mem hk,by simp [hp]⟩
theorem zkY {α:Type} {p:α→Bool} {l:List α} {k:Nat} (hk:l.length≤k) (h:(l.take k).all p=true):l.all p=true:=by
 rwa [List.take_of_length_le hk] at h
def zsg (f:Nat) (n:Nat):Prop:=∀ {w W:World} {v:Value} {t:DTerm} {d:Int},Is W v t→Ext W w→d=(n:Int) →
 CALL Tryz.prog f [v,.int .i64 d] w fun r w'=>Ext w w'∧r=.bool (zaX n t)
def F244 (a0 a1:Value) (w:World) (R:VW):Prop:=
 oP (Instr.box 53 a0) w fun x2 w=>
 JOIN [] (fun J18=>
 rF 53 x2 0 w fun x7=>
 rL 3 x7 w fun x8=>
 rB .eql 3 T0 U0 x8 (iV 1) w fun x10=>
 BR x10
 (rF 53 x2 1 w fun x11=>
 rL 3 x11 w fun x12=>
 rB .geq 3 T0 U0 x12 (iV 0) w fun x13=>
 BR x13
 (rF 53 x2 1 w fun x15=>
 rL 3 x15 w fun x16=>
 rB .leq 3 T0 U0 x16 (iV 1000000000) w fun x17=>
 BR x17
 (rF 53 x2 2 w fun x20=>
 rL 9 x20 w fun x21=>
 rB .eql 9 T0 U0 x21 (Value.string (ByteArray.mk #[])) w fun x22=>
 BR x22
 (rF 53 x2 3 w fun x25=>
 rL 51 x25 w fun x26=>
 rN 51 3 x26 w fun x27=>
 rB .eql 3 T0 U0 x27 (iV 0) w fun x28=>
 R x28 w)
 (R (Value.bool false) w))
 (R (Value.bool false) w))
 (R (Value.bool false) w))
 (rB .eql 3 T0 U0 x8 (iV 2) w fun x31=>
 BR x31
 (rF 53 x2 1 w fun x32=>
 rL 3 x32 w fun x33=>
 rB .eql 3 T0 U0 x33 (iV 0) w fun x34=>
 BR x34
 (rF 53 x2 2 w fun x36=>
 rL 9 x36 w fun x37=>
 cL 176 [x37] w fun x38 w=>
 BR x38
 (rF 53 x2 3 w fun x41=>
 rL 51 x41 w fun x42=>
 rN 51 3 x42 w fun x43=>
 rB .eql 3 T0 U0 x43 (iV 0) w fun x44=>
 R x44 w)
 (R (Value.bool false) w))
 (R (Value.bool false) w))
 (rB .eql 3 T0 U0 x8 (iV 3) w fun x47=>
 BR x47
 (rF 53 x2 3 w fun x53=>
 rL 51 x53 w fun x54=>
 rN 51 3 x54 w fun x55=>
 rB .neq 3 T0 U0 x55 (iV 2) w fun x56=>
 BR x56
 (R (Value.bool false) w)
 (J18 [] w))
 (rB .eql 3 T0 U0 x8 (iV 4) w fun x48=>
 BR x48
 (rF 53 x2 3 w fun x53=>
 rL 51 x53 w fun x54=>
 rN 51 3 x54 w fun x55=>
 rB .neq 3 T0 U0 x55 (iV 2) w fun x56=>
 BR x56
 (R (Value.bool false) w)
 (J18 [] w))
 (rB .eql 3 T0 U0 x8 (iV 5) w fun x49=>
 BR x49
 (rF 53 x2 3 w fun x53=>
 rL 51 x53 w fun x54=>
 rN 51 3 x54 w fun x55=>
 rB .neq 3 T0 U0 x55 (iV 2) w fun x56=>
 BR x56
 (R (Value.bool false) w)
 (J18 [] w))
 (rB .eql 3 T0 U0 x8 (iV 6) w fun x50=>
 BR x50
 (rF 53 x2 3 w fun x53=>
 rL 51 x53 w fun x54=>
 rN 51 3 x54 w fun x55=>
 rB .neq 3 T0 U0 x55 (iV 2) w fun x56=>
 BR x56
 (R (Value.bool false) w)
 (J18 [] w))
 (rB .eql 3 T0 U0 x8 (iV 7) w fun x51=>
 BR x51
 (rF 53 x2 3 w fun x53=>
 rL 51 x53 w fun x54=>
 rN 51 3 x54 w fun x55=>
 rB .neq 3 T0 U0 x55 (iV 2) w fun x56=>
 BR x56
 (R (Value.bool false) w)
 (J18 [] w))
 (rB .eql 3 T0 U0 x8 (iV 9) w fun x52=>
 BR x52
 (rF 53 x2 3 w fun x53=>
 rL 51 x53 w fun x54=>
 rN 51 3 x54 w fun x55=>
 rB .neq 3 T0 U0 x55 (iV 2) w fun x56=>
 BR x56
 (R (Value.bool false) w)
 (J18 [] w))
 (rB .eql 3 T0 U0 x8 (iV 8) w fun x58=>
 BR x58
 (rF 53 x2 3 w fun x59=>
 rL 51 x59 w fun x60=>
 rN 51 3 x60 w fun x61=>
 rB .neq 3 T0 U0 x61 (iV 1) w fun x62=>
 BR x62
 (R (Value.bool false) w)
 (J18 [] w))
 (R (Value.bool false) w)))))))))) (fun u18 w=>
 rF 53 x2 1 w fun x63=>
 rL 3 x63 w fun x64=>
 rB .neq 3 T0 U0 x64 (iV 0) w fun x65=>
 BR x65
 (R (Value.bool false) w)
 (rF 53 x2 2 w fun x67=>
 rL 9 x67 w fun x68=>
 rB .neq 9 T0 U0 x68 (Value.string (ByteArray.mk #[])) w fun x69=>
 BR x69
 (R (Value.bool false) w)
 (rB .eql 3 T0 U0 a1 (iV 0) w fun x73=>
 BR x73
 (R (Value.bool false) w)
 (rF 53 x2 3 w fun x75=>
 rL 51 x75 w fun x76=>
 rN 51 3 x76 w fun x77=>
 LOOPI [78] [(iV 0)] w fun u21 w next21=>
 rC (u21 78) x77 w fun x79=>
 BR x79
 (rX 51 x76 (u21 78) w fun x80=>
 rL 53 x80 w fun x81=>
 oP (Instr.alloc 53 true (.tuple #[])) w fun x6 w=>
 oS 53 x6 x81 w fun w=>
 rL 53 x6 w fun x82=>
 rB .sub 3 T0 U0 a1 (iV 1) w fun x84=>
 cL 244 [x82,x84] w fun x85 w=>
 rD (Op.unary .not x85) w fun x86=>
 BR x86
 (R (Value.bool false) w)
 (rA (u21 78) (iV 1) w fun x87=>
 next21 [x87] w))
 (R (Value.bool true) w)))))
def cfg244:Cfg:=⟨extL,[(18,9223372036854775696,[])],[(21,309182778366441411431104592,[78])],[],[],[],[]⟩
theorem F244_call {a0 a1:Value} {w:World} {R:VW} (h:F244 a0 a1 w R):cL 244 [a0,a1] w R:=co (g:=cfg244) Tryz.func244 (by kernel_rfl) (by kernel_rfl) (by kernel_rfl) h
theorem zhZ {w:World} {v0:Value} {W0:World} {t:DTerm} {d:Int} {n:Nat} (h0:Is W0 v0 t) (e0:Ext W0 w) (hd:d=(n:Int)) (ih:∀ m,m+1=n→zsg 244 m) (hn:n≤6) :
   CALL Tryz.prog 244 [v0,.int .i64 d] w fun r w'=>Ext w w'∧(r=.bool (zaX n t)):=by
 refine F244_call ?_
 unfold F244
 refine zbm zcn rfl h0 e0 fun w1_ hx1_ hA2 hV2=>?_
 refine JOIN.mk (fun us w'=>us=[]∧Ext w1_ w'∧(3≤t.kind∧t.kind≤9∧(t.kids.length:Int)=(if t.kind=8 then 1 else 2))) ?_ ?_
 · refine zaa zkR ?_
   refine zac ty3 (zd8 hA2) (Ext.refl w1_) fun hI8=>?_
   refine zai ?_
   refine br (fun c1=>?_) (fun c1=>?_)
   · refine zaa zhj ?_
     refine zac ty3 (zcu hA2) (Ext.refl w1_) fun hI12=>?_
     refine zdD ?_
     refine br (fun c2=>?_) (fun c2=>?_)
     · refine zaa zhj ?_
       refine zac ty3 (zcu hA2) (Ext.refl w1_) fun hI16=>?_
       refine zeU ?_
       refine br (fun c3=>?_) (fun c3=>?_)
       · refine zaa zhk ?_
         refine zaA ty9 (zcv hA2) (Ext.refl w1_) fun hS21=>?_
         refine zbi ?_
         refine br (fun c4=>?_) (fun c4=>?_)
         · refine zaa zc6 ?_
           refine zab zlL (za4 hA2) (Ext.refl w1_) fun v26 h26=>?_
           have hln27:=zan h26
           refine zaf u51 h26 ?_
           refine zai ?_
           refine ⟨hx1_,?_⟩
           rw [zea c1];simp only [c2,c3,c4,and_self,decide_true,Bool.true_and]
         refine ⟨hx1_,?_⟩
         rw [zea c1];simp only [c4,decide_false,Bool.and_false,Bool.false_and]
       refine ⟨hx1_,?_⟩
       rw [zea c1];simp only [c3,and_false,decide_false,Bool.false_and]
     refine ⟨hx1_,?_⟩
     rw [zea c1];simp only [c2,false_and,decide_false,Bool.false_and]
   refine zai ?_
   refine br (fun c5=>?_) (fun c5=>?_)
   · refine zaa zhj ?_
     refine zac ty3 (zcu hA2) (Ext.refl w1_) fun hI33=>?_
     refine zai ?_
     refine br (fun c6=>?_) (fun c6=>?_)
     · refine zaa zhk ?_
       refine zaA ty9 (zcv hA2) (Ext.refl w1_) fun hS37=>?_
       refine (za5 ).mono ?_
       rintro _ w3_ ⟨hx3_,rfl⟩
       refine zbQ (fun c7=>?_) (fun c7=>?_)
       · refine zaa zc6 ?_
         refine zab zlL (za4 hA2) hx3_ fun v42 h42=>?_
         have hln43:=zan h42
         refine zaf u51 h42 ?_
         refine zai ?_
         refine ⟨(hx1_.trans hx3_),?_⟩
         rw [zfX c5];simp only [c6,c7,decide_true,Bool.true_and]
       refine ⟨(hx1_.trans hx3_),?_⟩
       rw [zfX c5];simp only [c6,c7,decide_true,Bool.true_and,Bool.false_and]
     refine ⟨hx1_,?_⟩
     rw [zfX c5];simp only [c6,decide_false,Bool.false_and]
   refine zai ?_
   refine br (fun c8=>?_) (fun c8=>?_)
   · refine zaa zc6 ?_
     refine zab zlL (za4 hA2) (Ext.refl w1_) fun v54 h54=>?_
     have hln55:=zan h54
     refine zaf u51 h54 ?_
     refine zaT ?_
     refine br (fun c9=>?_) (fun c9=>?_)
     · refine ⟨hx1_,?_⟩
       rw [zba c1 c5];simp [show ¬t.kind=8 by omega,show ¬(t.kids.length:Int)=2 from c9]
     refine ⟨by simp,Ext.refl w1_,?_⟩
     split<;>omega
   refine zai ?_
   refine br (fun c10=>?_) (fun c10=>?_)
   · refine zaa zc6 ?_
     refine zab zlL (za4 hA2) (Ext.refl w1_) fun v54 h54=>?_
     have hln55:=zan h54
     refine zaf u51 h54 ?_
     refine zaT ?_
     refine br (fun c11=>?_) (fun c11=>?_)
     · refine ⟨hx1_,?_⟩
       rw [zba c1 c5];simp [show ¬t.kind=8 by omega,show ¬(t.kids.length:Int)=2 from c11]
     refine ⟨by simp,Ext.refl w1_,?_⟩
     split<;>omega
   refine zai ?_
   refine br (fun c12=>?_) (fun c12=>?_)
   · refine zaa zc6 ?_
     refine zab zlL (za4 hA2) (Ext.refl w1_) fun v54 h54=>?_
     have hln55:=zan h54
     refine zaf u51 h54 ?_
     refine zaT ?_
     refine br (fun c13=>?_) (fun c13=>?_)
     · refine ⟨hx1_,?_⟩
       rw [zba c1 c5];simp [show ¬t.kind=8 by omega,show ¬(t.kids.length:Int)=2 from c13]
     refine ⟨by simp,Ext.refl w1_,?_⟩
     split<;>omega
   refine zai ?_
   refine br (fun c14=>?_) (fun c14=>?_)
   · refine zaa zc6 ?_
     refine zab zlL (za4 hA2) (Ext.refl w1_) fun v54 h54=>?_
     have hln55:=zan h54
     refine zaf u51 h54 ?_
     refine zaT ?_
     refine br (fun c15=>?_) (fun c15=>?_)
     · refine ⟨hx1_,?_⟩
       rw [zba c1 c5];simp [show ¬t.kind=8 by omega,show ¬(t.kids.length:Int)=2 from c15]
     refine ⟨by simp,Ext.refl w1_,?_⟩
     split<;>omega
   refine zai ?_
   refine br (fun c16=>?_) (fun c16=>?_)
   · refine zaa zc6 ?_
     refine zab zlL (za4 hA2) (Ext.refl w1_) fun v54 h54=>?_
     have hln55:=zan h54
     refine zaf u51 h54 ?_
     refine zaT ?_
     refine br (fun c17=>?_) (fun c17=>?_)
     · refine ⟨hx1_,?_⟩
       rw [zba c1 c5];simp [show ¬t.kind=8 by omega,show ¬(t.kids.length:Int)=2 from c17]
     refine ⟨by simp,Ext.refl w1_,?_⟩
     split<;>omega
   refine zai ?_
   refine br (fun c18=>?_) (fun c18=>?_)
   · refine zaa zc6 ?_
     refine zab zlL (za4 hA2) (Ext.refl w1_) fun v54 h54=>?_
     have hln55:=zan h54
     refine zaf u51 h54 ?_
     refine zaT ?_
     refine br (fun c19=>?_) (fun c19=>?_)
     · refine ⟨hx1_,?_⟩
       rw [zba c1 c5];simp [show ¬t.kind=8 by omega,show ¬(t.kids.length:Int)=2 from c19]
     refine ⟨by simp,Ext.refl w1_,?_⟩
     split<;>omega
   refine zai ?_
   refine br (fun c20=>?_) (fun c20=>?_)
   · refine zaa zc6 ?_
     refine zab zlL (za4 hA2) (Ext.refl w1_) fun v60 h60=>?_
     have hln61:=zan h60
     refine zaf u51 h60 ?_
     refine zaT ?_
     refine br (fun c21=>?_) (fun c21=>?_)
     · refine ⟨hx1_,?_⟩
       rw [zba c1 c5];simp [c20,show ¬(t.kids.length:Int)=1 from c21]
     refine ⟨by simp,Ext.refl w1_,?_⟩
     split<;>omega
   refine ⟨hx1_,?_⟩
   rw [zba c1 c5];simp [show ¬(3≤t.kind∧t.kind≤9) by omega]
 rintro uj18 w2_ ⟨hu,hx3_,hk1,hk2,hk3⟩
 simp only [List.map_cons,List.map_nil,List.cons.injEq,and_true] at hu
 clear hu
 refine zaa zhj ?_
 refine zac ty3 (zcu hA2) hx3_ fun hI64=>?_
 refine zaT ?_
 refine br (fun c22=>?_) (fun c22=>?_)
 · refine ⟨(hx1_.trans hx3_),?_⟩
   rw [zba (by omega) (by omega)];simp [c22]
 refine zaa zhk ?_
 refine zaA ty9 (zcv hA2) hx3_ fun hS68=>?_
 refine zqa ?_
 refine br (fun c23=>?_) (fun c23=>?_)
 · refine ⟨(hx1_.trans hx3_),?_⟩
   rw [zba (by omega) (by omega)];simp [c23]
 refine zai ?_
 refine br (fun c24=>?_) (fun c24=>?_)
 · refine ⟨(hx1_.trans hx3_),?_⟩
   rw [zba (by omega) (by omega)];simp [show n=0 by omega]
 refine zaa zc6 ?_
 refine zab zlL (za4 hA2) hx3_ fun v76 h76=>?_
 have hln77:=zan h76
 refine zaf u51 h76 ?_
 refine zaE (t.kids.length) (fun k us w'=>us=[.int .i64 (k:Int)]∧Ext w2_ w'∧((t.kids.take k).all (zaX (n-1))=true)) (0) (by omega) ⟨by simp,Ext.refl w2_,by simp⟩ ?_
 rintro k m21 uu21 w4_ hk21 ⟨hu,hx4_,hinv⟩
 simp only [List.map_cons,List.map_nil,List.cons.injEq,and_true] at hu
 try rw [hu]
 try clear hu
 refine zal ?_
 refine br (fun c25=>?_) (fun c25=>?_)
 · refine zad u51 zcn h76 (by omega) fun b80 o80 h80=>?_
   refine zab zcn h80 (hx3_.trans hx4_) fun v81 h81=>?_
   refine zbB zqb rfl zcn rfl h81 (hx3_.trans hx4_) fun w5_ hx5_ hA6 hV6=>?_
   refine zdF hV6 (Ext.refl w5_) ?_
   refine zck (by unfold I64;omega) ?_
   refine (ih (n-1) (by omega) h81 (hx3_.trans (hx4_.trans hx5_)) (by omega)).mono ?_
   rintro _ w6_ ⟨hx6_,rfl⟩
   refine zaO ?_
   refine zbQ (fun c26=>?_) (fun c26=>?_)
   · refine ⟨(hx1_.trans (hx3_.trans (hx4_.trans (hx5_.trans hx6_)))),?_⟩
     rw [zba (by omega) (by omega)]
     obtain ⟨m,rfl⟩:∃ m,n=m+1:=⟨n-1,by omega⟩
     rw [Bool.not_eq_true',Nat.add_sub_cancel] at c26
     simp only [ziT (by omega) c26,Bool.and_false]
   have hln:=zan h76
   refine zag (by omega) ?_
   refine ⟨m21-1,by omega,k+1,by omega,by simp,(hx4_.trans (hx5_.trans hx6_)),?_⟩
   exact zkX (by omega) hinv (by simpa using c26)
 refine ⟨(hx1_.trans (hx3_.trans hx4_)),?_⟩
 rw [zba (by omega) (by omega)]
 obtain ⟨m,rfl⟩:∃ m,n=m+1:=⟨n-1,by omega⟩
 rw [Nat.add_sub_cancel] at hinv
 simp only [show 3≤t.kind∧t.kind≤9 from ⟨hk1,hk2⟩,Decidable.not_not.1 c22,Decidable.not_not.1 c23,hk3,zkY (by omega) hinv,and_self,decide_true,Bool.and_self]
theorem zgt:∀ (n:Nat),n≤6→zsg 244 n
 | n,hn=>by intro h e hd;exact zhZ h e hd (fun m hm=>zgt m (by omega)) hn
def F189 (a0:Value) (w:World) (R:VW):Prop:=
 oP (Instr.box 53 a0) w fun x1 w=>
 rL 53 x1 w fun x3=>
 cL 244 [x3,(iV 6)] w fun x4 w=>
 R x4 w
def cfg189:Cfg:=⟨extL,[],[],[],[],[],[]⟩
theorem F189_call {a0:Value} {w:World} {R:VW} (h:F189 a0 w R):cL 189 [a0] w R:=co (g:=cfg189) Tryz.func189 (by kernel_rfl) (by kernel_rfl) (by kernel_rfl) h
theorem zbx {w:World} {v0:Value} {W0:World} {t:DTerm}  (h0:Is W0 v0 t) (e0:Ext W0 w)  :
   CALL Tryz.prog 189 [v0] w fun r w'=>Ext w w'∧(r=.bool (zaX 6 t)):=by
 refine F189_call ?_
 unfold F189
 refine zbm zcn rfl h0 e0 fun w1_ hx1_ hA1 hV1=>?_
 refine zdF hV1 (Ext.refl w1_) ?_
 refine ((zgt 6 (by omega)) h0 (e0.trans hx1_) rfl).mono ?_
 rintro _ w2_ ⟨hx2_,rfl⟩
 refine ⟨(hx1_.trans hx2_),?_⟩
 rfl
def zaM:DTerm:=.mk 0 0 (ByteArray.mk #[]) []
def F190 (a0:Value) (w:World) (R:VW):Prop:=
 oP (Instr.box 53 a0) w fun x1 w=>
 rF 53 x1 0 w fun x3=>
 rL 3 x3 w fun x4=>
 rB .eql 3 T0 U0 x4 (iV 0) w fun x5=>
 BR x5
 (rF 53 x1 1 w fun x7=>
 rL 3 x7 w fun x8=>
 rB .eql 3 T0 U0 x8 (iV 0) w fun x9=>
 BR x9
 (rF 53 x1 2 w fun x12=>
 rL 9 x12 w fun x13=>
 rB .eql 9 T0 U0 x13 (Value.string (ByteArray.mk #[])) w fun x14=>
 BR x14
 (rF 53 x1 3 w fun x17=>
 rL 51 x17 w fun x18=>
 rN 51 3 x18 w fun x19=>
 rB .eql 3 T0 U0 x19 (iV 0) w fun x20=>
 R x20 w)
 (R (Value.bool false) w))
 (R (Value.bool false) w))
 (R (Value.bool false) w)
def cfg190:Cfg:=⟨extL,[],[],[],[],[],[]⟩
theorem F190_call {a0:Value} {w:World} {R:VW} (h:F190 a0 w R):cL 190 [a0] w R:=co (g:=cfg190) Tryz.func190 (by kernel_rfl) (by kernel_rfl) (by kernel_rfl) h
theorem zby {w:World} {v0:Value} {W0:World} {t:DTerm}  (h0:Is W0 v0 t) (e0:Ext W0 w)  :
   CALL Tryz.prog 190 [v0] w fun r w'=>Ext w w'∧(r=.bool (decide (t=zaM))):=by
 refine F190_call ?_
 unfold F190
 refine zbm zcn rfl h0 e0 fun w1_ hx1_ hA1 hV1=>?_
 refine zaa zkR ?_
 refine zac ty3 (zd8 hA1) (Ext.refl w1_) fun hI4=>?_
 refine zai ?_
 refine br (fun c1=>?_) (fun c1=>?_)
 · refine zaa zhj ?_
   refine zac ty3 (zcu hA1) (Ext.refl w1_) fun hI8=>?_
   refine zai ?_
   refine br (fun c2=>?_) (fun c2=>?_)
   · refine zaa zhk ?_
     refine zaA ty9 (zcv hA1) (Ext.refl w1_) fun hS13=>?_
     refine zbi ?_
     refine br (fun c3=>?_) (fun c3=>?_)
     · refine zaa zc6 ?_
       refine zab zlL (za4 hA1) (Ext.refl w1_) fun v18 h18=>?_
       have hln19:=zan h18
       refine zaf u51 h18 ?_
       refine zai ?_
       refine ⟨hx1_,?_⟩
       congr 1
       rw [decide_eq_decide,DTerm.ext_iff]
       exact ⟨fun h=>⟨c1,c2,c3,List.eq_nil_of_length_eq_zero (by omega)⟩,fun h=>by rw [h.2.2.2];rfl⟩
     refine ⟨hx1_,?_⟩
     have:t≠zaM:=fun e=>c3 (by rw [e];rfl)
     simp [this]
   refine ⟨hx1_,?_⟩
   have:t≠zaM:=fun e=>c2 (by rw [e];rfl)
   simp [this]
 refine ⟨hx1_,?_⟩
 have:t≠zaM:=fun e=>c1 (by rw [e];rfl)
 simp [this]
def plc (s:ByteArray):List ByteArray→Int
 | []=>-1
 | x :: l=>if x=s then 0 else if plc s l<0 then -1 else plc s l+1
theorem zoC {s:ByteArray} {l:List ByteArray} (h:s∉l):plc s l=-1:=by
 induction l with
 | nil=>rfl
 | cons x l ih=>
   simp only [List.mem_cons,not_or] at h
   rw [plc,if_neg (fun e=>h.1 e.symm),ih h.2];rfl
theorem zpB {s:ByteArray}:∀ {l:List ByteArray} {k:Nat} (hk:k<l.length),s∉l.take k→l[k]=s→plc s l=k
 | x :: l,0,_,_,h=>by simp only [List.getElem_cons_zero] at h;rw [plc,if_pos h];rfl
 | x :: l,k+1,hk,hn,h=>by
   simp only [List.take_succ_cons,List.mem_cons,not_or] at hn
   have ih:=zpB (by simpa using hk) hn.2 (by simpa using h)
   rw [plc,if_neg (fun e=>hn.1 e.symm),ih,if_neg (by omega)]
   omega
theorem zkZ {s:ByteArray} {l:List ByteArray}:-1≤plc s l∧plc s l<l.length:=by
 induction l with
 | nil=>simp [plc]
 | cons x l ih=>
   rw [plc]
   split
   · simp only [List.length_cons];omega
   split<;>simp only [List.length_cons]<;>omega
theorem zjZ {s:ByteArray} {l:List ByteArray}:0≤plc s l↔s∈l:=by
 induction l with
 | nil=>simp [plc]
 | cons x l ih=>
   rw [plc]
   split
   · rename_i h;simp [h]
   rename_i h
   rw [List.mem_cons,←ih]
   have:¬s=x:=fun e=>h e.symm
   simp only [this,false_or]
   split<;>omega
theorem zg8 {l:List ByteArray} {k:Nat} {y:ByteArray} (hk:k<l.length) (h:y∉l.take k) (c:¬l[k]=y):y∉l.take (k+1):=by
 rw [List.take_succ_eq_append_getElem hk]
 simp only [List.mem_append,List.mem_cons,List.not_mem_nil,or_false,not_or]
 exact ⟨h,fun e=>c e.symm⟩
def F121 (a0 a1:Value) (w:World) (R:VW):Prop:=
 rN 24 3 a0 w fun x7=>
 LOOPI [8] [(iV 0)] w fun u2 w next2=>
 rC (u2 8) x7 w fun x9=>
 BR x9
 (rX 24 a0 (u2 8) w fun x14=>
 rL 9 x14 w fun x15=>
 rB .eql 9 T0 T0 a1 x15 w fun x16=>
 BR x16
 (R (u2 8) w)
 (rA (u2 8) (iV 1) w fun x18=>
 next2 [x18] w))
 (R (iV (-1)) w)
def cfg121:Cfg:=⟨extL,[],[(2,524080,[8])],[],[],[],[]⟩
theorem F121_call {a0 a1:Value} {w:World} {R:VW} (h:F121 a0 a1 w R):cL 121 [a0,a1] w R:=co (g:=cfg121) Tryz.func121 (by kernel_rfl) (by kernel_rfl) (by kernel_rfl) h
theorem zeB {w:World} {v0:Value} {W0:World} {l:(List ByteArray)} {s:ByteArray}  (h0:Is W0 v0 l) (e0:Ext W0 w)  :
   CALL Tryz.prog 121 [v0,.string s] w fun r w'=>Ext w w'∧(r=.int .i64 (plc s l)):=by
 refine F121_call ?_
 unfold F121
 have hln7:=zan h0
 refine zaf u24 h0 ?_
 refine zaE (l.length) (fun k us w'=>us=[.int .i64 (k:Int)]∧Ext w w'∧(s∉l.take k)) (0) (by omega) ⟨by simp,Ext.refl w,by simp⟩ ?_
 rintro k m2 uu2 w1_ hk2 ⟨hu,hx1_,hinv⟩
 simp only [List.map_cons,List.map_nil,List.cons.injEq,and_true] at hu
 try rw [hu]
 try clear hu
 refine zal ?_
 refine br (fun c1=>?_) (fun c1=>?_)
 · refine zad u24 ty9 h0 (by omega) fun b14 o14 h14=>?_
   refine zaA ty9 h14 (e0.trans hx1_) fun hS15=>?_
   refine zbi ?_
   refine br (fun c2=>?_) (fun c2=>?_)
   · refine ⟨hx1_,?_⟩
     rw [zpB (by omega) hinv c2.symm]
   refine zag (by omega) ?_
   refine ⟨m2-1,by omega,k+1,by omega,by simp,hx1_,?_⟩
   exact zg8 (by omega) hinv (fun e=>c2 e.symm)
 refine ⟨hx1_,?_⟩
 rw [List.take_of_length_le (by omega)] at hinv
 rw [zoC hinv]
def F99 (a0 a1:Value) (w:World) (R:VW):Prop:=
 cL 121 [a0,a1] w fun x7 w=>
 rB .geq 3 T0 U0 x7 (iV 0) w fun x8=>
 R x8 w
def cfg99:Cfg:=⟨extL,[],[],[],[],[],[]⟩
theorem F99_call {a0 a1:Value} {w:World} {R:VW} (h:F99 a0 a1 w R):cL 99 [a0,a1] w R:=co (g:=cfg99) Tryz.func99 (by kernel_rfl) (by kernel_rfl) (by kernel_rfl) h
theorem zaV {w:World} {v0:Value} {W0:World} {l:(List ByteArray)} {s:ByteArray}  (h0:Is W0 v0 l) (e0:Ext W0 w)  :
   CALL Tryz.prog 99 [v0,.string s] w fun r w'=>Ext w w'∧(r=.bool (decide (s∈l))):=by
 refine F99_call ?_
 unfold F99
 refine (zeB h0 e0).mono ?_
 rintro _ w1_ ⟨hx1_,rfl⟩
 refine zdD ?_
 refine ⟨hx1_,?_⟩
 simp [zjZ]
def F175 (a0 a1:Value) (w:World) (R:VW):Prop:=
 rN 24 3 a0 w fun x8=>
 rB .gtr 3 T0 T0 x8 a1 w fun x10=>
 BR x10
 (R (Value.bool false) w)
 (rN 24 3 a0 w fun x12=>
 LOOPI [13] [(iV 0)] w fun u4 w next4=>
 rC (u4 13) x12 w fun x14=>
 BR x14
 (rX 24 a0 (u4 13) w fun x15=>
 rL 9 x15 w fun x16=>
 cL 176 [x16] w fun x18 w=>
 rD (Op.unary .not x18) w fun x19=>
 BR x19
 (R (Value.bool false) w)
 (rA (u4 13) (iV 1) w fun x20=>
 next4 [x20] w))
 (R (Value.bool true) w))
def cfg175:Cfg:=⟨extL,[],[(4,2089040,[13])],[],[],[],[]⟩
theorem F175_call {a0 a1:Value} {w:World} {R:VW} (h:F175 a0 a1 w R):cL 175 [a0,a1] w R:=co (g:=cfg175) Tryz.func175 (by kernel_rfl) (by kernel_rfl) (by kernel_rfl) h
theorem zcG {w:World} {v0:Value} {W0:World} {l:(List ByteArray)} {m:Int}  (h0:Is W0 v0 l) (e0:Ext W0 w)  :
   CALL Tryz.prog 175 [v0,.int .i64 m] w fun r w'=>Ext w w'∧(r=.bool (decide ((l.length:Int)≤m)&&l.all za9)):=by
 refine F175_call ?_
 unfold F175
 have hln8:=zan h0
 refine zaf u24 h0 ?_
 refine zdP ?_
 refine br (fun c1=>?_) (fun c1=>?_)
 · refine ⟨Ext.refl w,?_⟩
   simp [show ¬(l.length:Int)≤m by omega]
 have hln12:=zan h0
 refine zaf u24 h0 ?_
 refine zaE (l.length) (fun k us w'=>us=[.int .i64 (k:Int)]∧Ext w w'∧((l.take k).all za9=true)) (0) (by omega) ⟨by simp,Ext.refl w,by simp⟩ ?_
 rintro k m4 uu4 w1_ hk4 ⟨hu,hx1_,hinv⟩
 simp only [List.map_cons,List.map_nil,List.cons.injEq,and_true] at hu
 try rw [hu]
 try clear hu
 refine zal ?_
 refine br (fun c2=>?_) (fun c2=>?_)
 · refine zad u24 ty9 h0 (by omega) fun b15 o15 h15=>?_
   refine zaA ty9 h15 (e0.trans hx1_) fun hS16=>?_
   refine (za5 ).mono ?_
   rintro _ w2_ ⟨hx2_,rfl⟩
   refine zaO ?_
   refine zbQ (fun c3=>?_) (fun c3=>?_)
   · refine ⟨(hx1_.trans hx2_),?_⟩
     simp only [ziT (p:=za9) (l:=l) (k:=k) (by omega) (by simpa using c3),Bool.and_false]
   have hln:=zan h0
   refine zag (by omega) ?_
   refine ⟨m4-1,by omega,k+1,by omega,by simp,(hx1_.trans hx2_),?_⟩
   exact zkX (by omega) hinv (by simpa using c3)
 refine ⟨hx1_,?_⟩
 simp [zkY (p:=za9) (l:=l) (by omega) hinv,show (l.length:Int)≤m by omega]
instance decNodup:∀ (l:List ByteArray),Decidable l.Nodup
 | []=>isTrue List.nodup_nil
 | x :: l=>match decMemBA x l,decNodup l with
   | isFalse h,isTrue h'=>isTrue (List.nodup_cons.2 ⟨h,h'⟩)
   | isTrue h,_=>isFalse fun e=>(List.nodup_cons.1 e).1 h
   | _,isFalse h=>isFalse fun e=>h (List.nodup_cons.1 e).2
theorem zrm {l:List ByteArray} {k:Nat} (hk:k<l.length) (h:l[k]∈l.drop (k+1)):¬l.Nodup:=fun hn=>by
 have e:l=l.take k++(l[k] :: l.drop (k+1)):=by simp
 rw [e,List.nodup_append] at hn
 exact (List.nodup_cons.1 hn.2.1).1 h
theorem zes:∀ {l:List ByteArray},(∀ (k:Nat) (hk:k<l.length),l[k]∉l.drop (k+1))→l.Nodup
 | [],_=>List.nodup_nil
 | x :: l,h=>List.nodup_cons.2 ⟨h 0 (by simp),zes fun k hk=>h (k+1) (by simpa using hk)⟩
def F97 (a0:Value) (w:World) (R:VW):Prop:=
 rN 24 3 a0 w fun x6=>
 LOOPI [7] [(iV 0)] w fun u2 w next2=>
 rC (u2 7) x6 w fun x8=>
 BR x8
 (rX 24 a0 (u2 7) w fun x10=>
 rL 9 x10 w fun x11=>
 rA (u2 7) (iV 1) w fun x14=>
 rD (Instr.sliceAt 24 a0 (some x14) none none) w fun x15=>
 cL 99 [x15,x11] w fun x17 w=>
 BR x17
 (R (Value.bool true) w)
 (rA (u2 7) (iV 1) w fun x18=>
 next2 [x18] w))
 (R (Value.bool false) w)
def cfg97:Cfg:=⟨extL,[],[(2,524188,[7])],[],[],[],[]⟩
theorem F97_call {a0:Value} {w:World} {R:VW} (h:F97 a0 w R):cL 97 [a0] w R:=co (g:=cfg97) Tryz.func97 (by kernel_rfl) (by kernel_rfl) (by kernel_rfl) h
theorem zbV {w:World} {v0:Value} {W0:World} {l:(List ByteArray)}  (h0:Is W0 v0 l) (e0:Ext W0 w)  :
   CALL Tryz.prog 97 [v0] w fun r w'=>Ext w w'∧(r=.bool (decide (¬l.Nodup))):=by
 refine F97_call ?_
 unfold F97
 have hln6:=zan h0
 refine zaf u24 h0 ?_
 refine zaE (l.length) (fun k us w'=>us=[.int .i64 (k:Int)]∧Ext w w'∧(∀ (j:Nat) (hj:j<l.length),j<k→l[j]∉l.drop (j+1))) (0) (by omega) ⟨by simp,Ext.refl w,fun j hj h=>by omega⟩ ?_
 rintro k m2 uu2 w1_ hk2 ⟨hu,hx1_,hinv⟩
 simp only [List.map_cons,List.map_nil,List.cons.injEq,and_true] at hu
 try rw [hu]
 try clear hu
 have hln:=zan h0
 refine zal ?_
 refine br (fun c1=>?_) (fun c1=>?_)
 · refine zad u24 ty9 h0 (by omega) fun b10 o10 h10=>?_
   refine zaA ty9 h10 (e0.trans hx1_) fun hS11=>?_
   refine zag (by omega) ?_
   refine zeV u24 ty9 h0 (by omega) (by omega) fun v15 h15=>?_
   refine (zaV h15 (e0.trans hx1_)).mono ?_
   rintro _ w2_ ⟨hx2_,rfl⟩
   refine br (fun c2=>?_) (fun c2=>?_)
   · refine ⟨(hx1_.trans hx2_),?_⟩
     simp [zrm (by omega) c2]
   refine zag (by omega) ?_
   refine ⟨m2-1,by omega,k+1,by omega,by simp,(hx1_.trans hx2_),?_⟩
   intro j hj hjk
   by_cases h:j=k
   · subst h;exact c2
   exact hinv j hj (by omega)
 refine ⟨hx1_,?_⟩
 simp [zes fun j hj=>hinv j hj (by omega)]
def F179 (a0 a1:Value) (w:World) (R:VW):Prop:=
 cL 99 [a0,a1] w fun x7 w=>
 BR x7
 (R a0 w)
 (oP (Instr.buildSlice 24 1 #[(0,a1)]) w fun x11 w=>
 oP (Builtin.append_ #[24,24] 24 [a0,x11].toArray) w fun x12 w=>
 R x12 w)
def cfg179:Cfg:=⟨extL,[],[],[],[],[],[]⟩
theorem F179_call {a0 a1:Value} {w:World} {R:VW} (h:F179 a0 a1 w R):cL 179 [a0,a1] w R:=co (g:=cfg179) Tryz.func179 (by kernel_rfl) (by kernel_rfl) (by kernel_rfl) h
def F243 (a0 a1:Value) (w:World) (R:VW):Prop:=
 oP (Instr.box 53 a1) w fun x3 w=>
 rF 53 x3 0 w fun x7=>
 rL 3 x7 w fun x8=>
 rB .eql 3 T0 U0 x8 (iV 2) w fun x9=>
 BR x9
 (rF 53 x3 2 w fun x11=>
 rL 9 x11 w fun x12=>
 cL 179 [a0,x12] w fun x13 w=>
 R x13 w)
 (rF 53 x3 3 w fun x14=>
 rL 51 x14 w fun x15=>
 rN 51 3 x15 w fun x16=>
 LOOPI [0,17] [a0,(iV 0)] w fun u4 w next4=>
 rC (u4 17) x16 w fun x18=>
 BR x18
 (rX 51 x15 (u4 17) w fun x19=>
 rL 53 x19 w fun x20=>
 oP (Instr.alloc 53 true (.tuple #[])) w fun x6 w=>
 oS 53 x6 x20 w fun w=>
 rL 53 x6 w fun x22=>
 cL 243 [(u4 0),x22] w fun x23 w=>
 rA (u4 17) (iV 1) w fun x24=>
 next4 [x23,x24] w)
 (R (u4 0) w))
def cfg243:Cfg:=⟨extL,[],[(4,33423425,[0,17])],[],[],[],[]⟩
theorem F243_call {a0 a1:Value} {w:World} {R:VW} (h:F243 a0 a1 w R):cL 243 [a0,a1] w R:=co (g:=cfg243) Tryz.func243 (by kernel_rfl) (by kernel_rfl) (by kernel_rfl) h
def F182 (a0:Value) (w:World) (R:VW):Prop:=
 oP (Instr.box 53 a0) w fun x1 w=>
 rL 53 x1 w fun x3=>
 cL 189 [x3] w fun x4 w=>
 rD (Op.unary .not x4) w fun x5=>
 BR x5
 (R (Value.slice none 0 0) w)
 (rL 53 x1 w fun x6=>
 cL 243 [(Value.slice none 0 0),x6] w fun x7 w=>
 R x7 w)
def cfg182:Cfg:=⟨extL,[],[],[],[],[],[]⟩
theorem F182_call {a0:Value} {w:World} {R:VW} (h:F182 a0 w R):cL 182 [a0] w R:=co (g:=cfg182) Tryz.func182 (by kernel_rfl) (by kernel_rfl) (by kernel_rfl) h
def zok (l:List ByteArray) (s:ByteArray):List ByteArray:=if s∈l then l else l++[s]
theorem zoD (l:List ByteArray) (s:ByteArray):(zok l s).length≤l.length+1:=by unfold zok;split<;>simp
def readsT:Nat→DTerm→List ByteArray→List ByteArray
 | n,t,l=>if t.kind=2 then zok l t.name else match n with | 0=>l | m+1=>t.kids.foldl (fun l k=>readsT m k l) l
theorem zbW (n:Nat) (t:DTerm) (l:List ByteArray):readsT n t l=if t.kind=2 then zok l t.name else match n with | 0=>l | m+1=>t.kids.foldl (fun l k=>readsT m k l) l:=readsT.eq_def n t l
theorem zlP {α β:Type} (f:β→α→β) (b:β) {l:List α} {k:Nat} (hk:k<l.length):(l.take (k+1)).foldl f b=f ((l.take k).foldl f b) l[k]:=by
 rw [List.take_succ_eq_append_getElem hk,List.foldl_append];rfl
theorem zgu {n:Nat} {t:DTerm} (h:zaX n t=true) (h2:¬t.kind=2):t.kids=[]∨∃ m,n=m+1∧t.kids.length≤2∧∀ k∈t.kids,zaX m k=true:=by
 by_cases h1:t.kind=1
 · rw [zea h1] at h
   simp only [Bool.and_eq_true,decide_eq_true_eq] at h
   exact .inl (List.eq_nil_of_length_eq_zero (by omega))
 rw [zba h1 h2] at h
 simp only [Bool.and_eq_true,decide_eq_true_eq] at h
 obtain ⟨⟨_,h3⟩,h4⟩:=h
 cases n with
 | zero=>simp at h4
 | succ m=>
   refine .inr ⟨m,rfl,?_,fun k hk=>List.all_eq_true.1 h4 k hk⟩
   split at h3<;>omega
theorem zhn:∀ (n:Nat) (t:DTerm) (l:List ByteArray),zaX n t=true→(readsT n t l).length≤l.length+2^n
 | n,t,l,h=>by
   rw [zbW]
   have hp:1≤2^n:=Nat.one_le_two_pow
   split
   · have:=zoD l t.name;omega
   rename_i h2
   rcases zgu h h2 with hk | ⟨m,rfl,hk,hall⟩
   · cases n with
     | zero=>simp
     | succ m=>simp [hk]
   show (t.kids.foldl (fun l k=>readsT m k l) l).length≤_
   have key:∀ (ks:List DTerm) (l:List ByteArray),(∀ k∈ks,zaX m k=true)→(ks.foldl (fun l k=>readsT m k l) l).length≤l.length+ks.length*2^m:=by
     intro ks
     induction ks with
     | nil=>intro l _;simp
     | cons k ks ih=>
       intro l hks
       rw [List.foldl_cons,List.length_cons,Nat.add_mul,Nat.one_mul]
       have h1:=ih (readsT m k l) fun x hx=>hks x (by simp [hx])
       have h2:=zhn m k l (hks k (by simp))
       omega
   have h1:=key t.kids l hall
   have h2:t.kids.length*2^m≤2*2^m:=Nat.mul_le_mul_right _ hk
   rw [Nat.pow_succ];omega
theorem zoE {w:World} {v:Value} {l:List ByteArray} {F:List Nat} {s:ByteArray} {ty:TypeId} {K:Value→World→Prop} (hr:RowF F 9 w v l) (hn:F.Nodup) (hs:s.size≤maxLen) (hl:l.length≤1000000)
   (k:∀ v' w',Chg F w w'→(∃ F',RowF F' 9 w' v' (l++[s])∧F'.Nodup∧∀ b∈F',b∈F∨w.heap.size≤b)→K v' w') :
   OP Tryz.prog (Instr.buildSlice 24 1 #[(0,.string s)]) w fun x w1=>OP Tryz.prog (Builtin.append_ #[24,24] ty [v,x].toArray) w1 K:=by
 refine zeZ (α:=ByteArray) (x:=s) (F:=[]) u24 ty9 z9 (by decide) ⟨⟨_,⟨rfl,rfl,hs⟩,rfl⟩,List.nodup_nil,Wr.nil _⟩ fun w1 hx1 hm1=>?_
 obtain ⟨a,cap,Fi,xs,he,h1,h2,hc,h4⟩:=zcf hm1.is
 have hFi:=Cells.flat (xs:=xs) hc
 subst hFi
 refine zeW (α:=ByteArray) (m:=[s]) u24 ty9 zc9 (hr.ext hx1) hn he hc (.inr ?_) (Wr.nil _) (by simpa using hn) (by simp only [List.length_cons,List.length_nil,zak];omega) (by simp only [List.length_cons,List.length_nil];omega) fun v' w' F' hch hfull hr' hn' hs'=>?_
 · rcases h4 with h4 | ⟨b,o,ha,hra,_⟩
   · simp at h4
   exact ⟨b,o,ha,hra⟩
 have hown:∀ c∈v.ownBlock.toList,c∈F:=fun c hc=>by
   obtain ⟨xs,Fi,_,_,rfl,_⟩:=hr
   simp only [List.mem_append];exact .inl hc
 refine k v' w' ((Ext.chg F hx1).trans (hch.mono hown)) ⟨F',hr',hn',fun b hb=>?_⟩
 rcases hs' b hb with h | h | h
 · exact .inl h
 · simp at h
 exact .inr (Nat.le_trans hx1.size h)
theorem zlQ {w:World} {v:Value} {l:List ByteArray} {F:List Nat} {s:ByteArray} (hr:RowF F 9 w v l) (hn:F.Nodup) (hs:s.size≤maxLen) (hl:l.length≤1000000) :
   CALL Tryz.prog 179 [v,.string s] w fun r w'=>Chg F w w'∧∃ F',RowF F' 9 w' r (zok l s)∧F'.Nodup∧∀ b∈F',b∈F∨w.heap.size≤b:=by
 refine F179_call ?_
 unfold F179
 refine (zaV hr.own.is (Ext.refl w)).mono ?_
 rintro _ w1 ⟨hx1,rfl⟩
 refine br (fun c1=>?_) (fun c1=>?_)
 · exact ⟨Ext.chg F hx1,F,by unfold zok;rw [if_pos c1];exact hr.ext hx1,hn,fun b hb=>.inl hb⟩
 refine zoE (hr.ext hx1) hn hs hl fun v' w' hc ⟨F',h1,h2,h3⟩=>⟨(Ext.chg F hx1).trans hc,F',by unfold zok;rw [if_neg c1];exact h1,h2,fun b hb=>?_⟩
 rcases h3 b hb with h | h
 · exact .inl h
 exact .inr (Nat.le_trans hx1.size h)
def zmW (F:List Nat) (w:World) (l:List ByteArray) (r:Value) (w':World):Prop:=Chg F w w'∧∃ F',RowF F' 9 w' r l∧F'.Nodup∧∀ b∈F',b∈F∨w.heap.size≤b
def zrX (n:Nat):Prop:=∀ {w W:World} {v u:Value} {t:DTerm} {l:List ByteArray} {F:List Nat},Is W v t→Ext W w→RowF F 9 w u l→F.Nodup→(∀ b∈F,W.heap.size≤b)→zaX n t=true→l.length+2^n≤1000 →
 CALL Tryz.prog 243 [u,v] w (zmW F w (readsT n t l))
theorem zk0 {n:Nat} {t:DTerm} {l:List ByteArray} (h:t.kind=2):readsT n t l=zok l t.name:=by rw [zbW,if_pos h]
theorem zj0 {n:Nat} {t:DTerm} {l:List ByteArray} (h:zaX n t=true) (h2:¬t.kind=2) (hl:l.length+2^n≤1000) :
   ∃ m,(t.kids=[]∨n=m+1)∧readsT n t l=t.kids.foldl (fun l k=>readsT m k l) l∧(∀ k∈t.kids,zaX m k=true)∧∀ k,k<t.kids.length→((t.kids.take k).foldl (fun l k=>readsT m k l) l).length+2^m≤1000:=by
 rcases zgu h h2 with hk | ⟨m,rfl,hk,hall⟩
 · refine ⟨0,.inl hk,?_,by simp [hk],by simp [hk]⟩
   rw [zbW,if_neg h2,hk]
   cases n<;>rfl
 refine ⟨m,.inr rfl,by rw [zbW,if_neg h2],hall,fun k hkl=>?_⟩
 rw [Nat.pow_succ] at hl
 have key:∀ (ks:List DTerm) (l:List ByteArray),(∀ k∈ks,zaX m k=true)→(ks.foldl (fun l k=>readsT m k l) l).length≤l.length+ks.length*2^m:=by
   intro ks
   induction ks with
   | nil=>intro l _;simp
   | cons k ks ih=>
     intro l hks
     rw [List.foldl_cons,List.length_cons,Nat.add_mul,Nat.one_mul]
     have h1:=ih (readsT m k l) fun x hx=>hks x (by simp [hx])
     have h2:=zhn m k l (hks k (by simp))
     omega
 have h1:=key (t.kids.take k) l fun x hx=>hall x (List.mem_of_mem_take hx)
 have h3:(t.kids.take k).length≤1:=by simp;omega
 have h4:(t.kids.take k).length*2^m≤1*2^m:=Nat.mul_le_mul_right _ h3
 omega
theorem zoF {W w:World} {b o:Nat} {t:DTerm} (h:AtB W w b o t):AtB W w b (o+3) t.kids:=by
 have h':AtB W w b o t.tup:=by obtain ⟨F,cs,hr,ha⟩:=h;exact ⟨F,cs,zew.1 hr,ha⟩
 exact h'.snd.snd.snd
theorem zh0 {n:Nat} (ih:∀ m,m+1=n→zrX m):zrX n:=by
 intro w W v u t l F h e hr hn hF ht hl
 refine F243_call ?_
 unfold F243
 refine zbm zcn rfl h e fun w1 hx1 hA hV=>?_
 refine zaa zkR ?_
 refine zac ty3 (zd8 hA) (Ext.refl w1) fun _=>?_
 refine zai ?_
 refine br (fun c1=>?_) (fun c1=>?_)
 · refine zaa zhk ?_
   refine zaA ty9 (zcv hA) (Ext.refl w1) fun hS=>?_
   have hp:1≤2^n:=Nat.one_le_two_pow
   refine (zlQ (hr.ext hx1) hn hS (by omega)).mono ?_
   rintro r w2 ⟨hc,F',h1,h2,h3⟩
   refine ⟨(Ext.chg F hx1).trans hc,F',by rw [zk0 c1];exact h1,h2,fun b hb=>?_⟩
   rcases h3 b hb with h | h
   · exact .inl h
   exact .inr (Nat.le_trans hx1.size h)
 obtain ⟨m,hm,he,hks,hlen⟩:=zj0 ht c1 hl
 refine zaa zc6 ?_
 refine zb9 zlL (zoF (zeA h hV rfl)) (e.trans hx1) (Ext.refl w1) fun v15 h15=>?_
 refine zaf u51 h15 ?_
 have hll:=zan h15
 refine zaE t.kids.length (fun k us w'=>∃ q,us=[q,.int .i64 (k:Int)]∧zmW F w ((t.kids.take k).foldl (fun l k=>readsT m k l) l) q w') 0 (Nat.zero_le _) ⟨u,rfl,Ext.chg F hx1,F,by simpa using hr.ext hx1,hn,fun b hb=>.inl hb⟩ ?_
 rintro k mm uu w2 hkm ⟨q,hu,hc2,F2,hr2,hn2,hs2⟩
 obtain ⟨hu0,hu1⟩:=zey hu
 try rw [hu0]
 try rw [hu1]
 have hF2:∀ b∈F2,W.heap.size≤b:=fun b hb=>by
   rcases hs2 b hb with h | h
   · exact hF b h
   exact Nat.le_trans e.size h
 have hxW:Ext W w2:=e.chg_trans hc2 hF
 refine zal ?_
 refine br (fun c2=>?_) (fun c2=>?_)
 · have hk:k<t.kids.length:=by omega
   obtain ⟨m',rfl⟩:∃ m',n=m'+1:=by
     rcases hm with h | h
     · rw [h] at hk;simp at hk
     exact ⟨m,h⟩
   have hmm:m'=m:=by
     rcases hm with h | h
     · rw [h] at hk;simp at hk
     omega
   subst hmm
   refine zad u51 zcn h15 hk fun b o hA2=>?_
   refine zab zcn hA2 hxW fun v20 h20=>?_
   refine zbB zqb rfl zcn rfl h20 hxW fun w3 hx3 hA3 hV3=>?_
   refine zdF hV3 (Ext.refl w3) ?_
   refine (ih m' rfl h20 (hxW.trans hx3) (hr2.ext hx3) hn2 hF2 (hks _ (List.getElem_mem hk)) (hlen k hk)).mono ?_
   rintro r w4 ⟨hc4,F4,hr4,hn4,hs4⟩
   refine zag (by omega) ?_
   refine ⟨mm-1,by omega,k+1,by omega,r,rfl,?_⟩
   refine ⟨?_,F4,by rw [zlP _ _ hk];exact hr4,hn4,fun b hb=>?_⟩
   · -- the blocks of F alone have turned
     refine ⟨hc4.os.trans (hx3.os.trans hc2.os),hc4.tape.trans (hx3.tape.trans hc2.tape),hc4.output.trans (hx3.output.trans hc2.output),Nat.le_trans hc2.size (Nat.le_trans hx3.size hc4.size),fun b hb hbF=>?_⟩
     have hb2:b<w2.heap.size:=Nat.lt_of_lt_of_le hb hc2.size
     have hbF2:b∉F2:=fun hm=>by
       rcases hs2 b hm with h | h
       · exact hbF h
       omega
     rw [hc4.block b (Nat.lt_of_lt_of_le hb2 hx3.size) hbF2,hx3.heap hb2,hc2.block b hb hbF]
   rcases hs4 b hb with h | h
   · exact hs2 b h
   have:=hx3.size;have:=hc2.size;exact .inr (by omega)
 rw [List.take_of_length_le (by omega),←he] at hr2
 exact ⟨hc2,F2,hr2,hn2,hs2⟩
theorem zgv:∀ n,zrX n
  | n=>zh0 fun m hm=>zgv m
termination_by n=>n
decreasing_by omega
def zbn (t:DTerm):List ByteArray:=if zaX 6 t=true then readsT 6 t [] else []
theorem zoG {α:Type} [Rep α] (e:TypeId) (w:World):RowF (α:=α) [] e w (.slice none 0 0) []:=⟨[],[],⟨by simp,.inl ⟨rfl,rfl⟩⟩,⟨rfl,rfl⟩,rfl,Wr.nil _⟩
theorem zb3 {w W:World} {v:Value} {t:DTerm} (h:Is W v t) (e:Ext W w):CALL Tryz.prog 182 [v] w fun r w'=>Ext w w'∧Is w' r (zbn t):=by
 refine F182_call ?_
 unfold F182
 refine zbm zcn rfl h e fun w1 hx1 hA hV=>?_
 refine zdF hV (Ext.refl w1) ?_
 refine (zbx h (e.trans hx1)).mono ?_
 rintro _ w2 ⟨hx2,rfl⟩
 refine zaO ?_
 refine zbQ (fun c=>?_) (fun c=>?_)
 · refine ⟨hx1.trans hx2,?_⟩
   unfold zbn
   rw [if_neg (by simpa using c)]
   exact zpv rfl
 have c:zaX 6 t=true:=by simpa using c
 refine zdF hV hx2 ?_
 refine (zgv 6 h ((e.trans hx1).trans hx2) (zoG _ _) List.nodup_nil (by simp) c (by decide)).mono ?_
 rintro r w3 ⟨hc,F',hr,hn,hs⟩
 refine ⟨(hx1.trans hx2).trans (Chg.ext hc),?_⟩
 unfold zbn
 rw [if_pos c]
 exact hr.own.is
mutual
def wT:DTerm→Nat
  | .mk _ _ s ks=>s.size+wTs ks
def wTs:List DTerm→Nat
  | []=>0
  | t :: r=>1+wT t+wTs r
end
theorem zmX (l:List DTerm):wTs l=l.length+sm wT l:=by
 induction l with
 | nil=>simp [wTs,sm]
 | cons t l ih=>rw [wTs,ih];simp [sm];omega
theorem zqi (t:DTerm):wT t=t.name.size+wTs t.kids:=by cases t;rw [wT];rfl
def zsh:DIns:=⟨0,0,zaM,0⟩
def en (c:DCode) (i:Nat):Int:=c.entry.getD i 0
def zah (c:DCode) (j:Nat):DIns:=c.ins.getD j zsh
theorem zcH {c:DCode} {i:Nat} (h:i<c.entry.length):c.entry[i]=en c i:=by unfold en;rw [List.getD_eq_getElem?_getD,List.getElem?_eq_getElem h];rfl
theorem zaY {c:DCode} {i:Nat} (h:i<c.ins.length):c.ins[i]=zah c i:=by unfold zah;rw [List.getD_eq_getElem?_getD,List.getElem?_eq_getElem h];rfl
def prc (c:DCode) (a:Int):Nat→Int
 | 0=>-1
 | n+1=>if en c n≤a then n else prc c a n
def zap (c:DCode) (a:Int):Int:=prc c a c.entry.length
theorem zk1 {c:DCode} {a:Int} {m:Nat}:∀ {n:Nat},m≤n→(∀ j,m≤j→j<n→a<en c j)→prc c a n=prc c a m
 | 0,h,_=>by rw [Nat.le_zero.1 h]
 | n+1,h,hj=>by
   by_cases e:m=n+1
   · rw [e]
   rw [prc,if_neg (by have:=hj n (by omega) (by omega);omega)]
   exact zk1 (by omega) fun j h1 h2=>hj j h1 (by omega)
theorem zpC {c:DCode} {a:Int}:∀ (n:Nat),-1≤prc c a n∧prc c a n<n
 | 0=>by simp [prc]
 | n+1=>by
   have:=zpC (c:=c) (a:=a) n
   rw [prc]
   split<;>omega
theorem zmY {c:DCode} {a:Int}:-1≤zap c a∧zap c a<c.entry.length:=zpC _
def zj1 (c:DCode) (p:Int):Int:=if p+1<c.entry.length then en c (p+1).toNat-1 else (c.ins.length:Int)-1
def zb4 (c:DCode) (i:Nat):Int:=if i+1<c.entry.length then en c (i+1) else c.ins.length
theorem zco (c:DCode) (i:Nat):zj1 c i=zb4 c i-1:=by
 unfold zj1 zb4
 have e:((i:Int)+1).toNat=i+1:=by omega
 by_cases h:i+1<c.entry.length
 · rw [if_pos (by omega),if_pos h,e]
 rw [if_neg (by omega),if_neg h]
def zbz:ByteArray:=ByteArray.mk #[109,97,105,110]
def NamesR (c:DCode):Prop:=(decide ((c.globals.length:Int)≤6)&&c.globals.all za9)=true∧(decide ((c.locks.length:Int)≤6)&&c.locks.all za9)=true∧(decide ((c.procs.length:Int)≤8)&&c.procs.all za9)=true ∧
 c.globals.Nodup∧c.locks.Nodup∧c.procs.Nodup∧zbz∈c.procs
instance (c:DCode):Decidable (NamesR c):=by unfold NamesR;infer_instance
def EntS (c:DCode):Prop:=c.entry.length=c.procs.length∧c.ins.length≤1500∧(∀ i,i<c.entry.length→(i=0→en c 0=0)∧(0<i→en c (i-1)<en c i)∧en c i<c.ins.length) ∧
 ∀ j,j<c.ins.length→((zah c j).op=9↔zj1 c (zap c j)=j)
instance (c:DCode):Decidable (EntS c):=by unfold EntS;infer_instance
theorem zoH {P:Nat→Prop} {k:Nat} (h:∀ i,i<k→P i) (hk:P k):∀ i,i<k+1→P i:=fun i hi=>by
 by_cases e:i=k
 · rw [e];exact hk
 exact h i (by omega)
def zbX (c:DCode) (op:Int):Int:=if op=1 then c.globals.length else if op=4∨op=5 then c.procs.length else if op=6∨op=7 then c.locks.length else 1
def zg6 (c:DCode) (a:DIns) (b e:Int):Prop:=(1≤a.op∧a.op≤9)∧(0≤a.arg∧a.arg<zbX c a.op) ∧
 (if a.op=1∨a.op=2 then zaX 6 a.term=true∧(∀ s∈zbn a.term,s∈c.globals) else a.term=zaM)∧(if a.op=2∨a.op=3 then b≤a.to∧a.to<e else a.to=0)
instance (c:DCode) (a:DIns) (b e:Int):Decidable (zg6 c a b e):=by unfold zg6;infer_instance
def CodeR (c:DCode):Prop:=NamesR c∧EntS c∧∀ j,j<c.ins.length→zg6 c (zah c j) (en c (zap c j).toNat) (zj1 c (zap c j)+1)
instance (c:DCode):Decidable (CodeR c):=by unfold CodeR;infer_instance
theorem NamesR.procs8 {c:DCode} (h:NamesR c):c.procs.length≤8∧0<c.procs.length:=by
 have h1:=h.2.2.1
 simp only [Bool.and_eq_true,decide_eq_true_eq] at h1
 have h2:=List.length_pos_of_mem h.2.2.2.2.2.2
 omega
theorem zho {c:DCode} {a:Int} (h0:en c 0≤a):∀ {n:Nat},0<n→0≤prc c a n
 | 1,_=>by rw [prc,if_pos h0];omega
 | n+2,_=>by
   rw [prc]
   split
   · omega
   exact zho h0 (by omega)
def F117 (a0:Value) (w:World) (R:VW):Prop:=
 oP (Instr.box 36 a0) w fun x1 w=>
 rF 36 x1 0 w fun x3=>
 rL 24 x3 w fun x4=>
 cL 175 [x4,(iV 6)] w fun x5 w=>
 rD (Op.unary .not x5) w fun x6=>
 BR x6
 (R (Value.bool false) w)
 (rF 36 x1 1 w fun x8=>
 rL 24 x8 w fun x9=>
 cL 175 [x9,(iV 6)] w fun x10 w=>
 rD (Op.unary .not x10) w fun x11=>
 BR x11
 (R (Value.bool false) w)
 (rF 36 x1 2 w fun x14=>
 rL 24 x14 w fun x15=>
 cL 175 [x15,(iV 8)] w fun x16 w=>
 rD (Op.unary .not x16) w fun x17=>
 BR x17
 (R (Value.bool false) w)
 (rF 36 x1 0 w fun x19=>
 rL 24 x19 w fun x20=>
 cL 97 [x20] w fun x21 w=>
 BR x21
 (R (Value.bool false) w)
 (rF 36 x1 1 w fun x23=>
 rL 24 x23 w fun x24=>
 cL 97 [x24] w fun x25 w=>
 BR x25
 (R (Value.bool false) w)
 (rF 36 x1 2 w fun x28=>
 rL 24 x28 w fun x29=>
 cL 97 [x29] w fun x30 w=>
 BR x30
 (R (Value.bool false) w)
 (rF 36 x1 2 w fun x32=>
 rL 24 x32 w fun x33=>
 cL 99 [x33,(Value.string (ByteArray.mk #[109,97,105,110]))] w fun x34 w=>
 R x34 w))))))
def cfg117:Cfg:=⟨extL,[],[],[],[],[],[]⟩
theorem F117_call {a0:Value} {w:World} {R:VW} (h:F117 a0 w R):cL 117 [a0] w R:=co (g:=cfg117) Tryz.func117 (by kernel_rfl) (by kernel_rfl) (by kernel_rfl) h
theorem zh1 {w:World} {v0:Value} {W0:World} {c:DCode}  (h0:Is W0 v0 c) (e0:Ext W0 w)  :
   CALL Tryz.prog 117 [v0] w fun r w'=>Ext w w'∧(r=.bool (decide (NamesR c))):=by
 refine F117_call ?_
 unfold F117
 refine zbm zfm rfl h0 e0 fun w1_ hx1_ hA1 hV1=>?_
 refine zaa zgi ?_
 refine zab zdQ (zcw hA1) (Ext.refl w1_) fun v4 h4=>?_
 refine (zcG h4 (Ext.refl w1_)).mono ?_
 rintro _ w2_ ⟨hx2_,rfl⟩
 refine zaO ?_
 refine zbQ (fun c1=>?_) (fun c1=>?_)
 · refine ⟨(hx1_.trans hx2_),?_⟩
   have:¬NamesR c:=fun h=>by rw [h.1] at c1;cases c1
   simp only [this,decide_false]
 refine zaa zhi ?_
 refine zab zdQ (zd9 hA1) hx2_ fun v9 h9=>?_
 refine (zcG h9 hx2_).mono ?_
 rintro _ w3_ ⟨hx3_,rfl⟩
 refine zaO ?_
 refine zbQ (fun c2=>?_) (fun c2=>?_)
 · refine ⟨(hx1_.trans (hx2_.trans hx3_)),?_⟩
   have:¬NamesR c:=fun h=>by rw [h.2.1] at c2;cases c2
   simp only [this,decide_false]
 refine zaa zc5 ?_
 refine zab zdQ (zbe hA1) (hx2_.trans hx3_) fun v15 h15=>?_
 refine (zcG h15 (hx2_.trans hx3_)).mono ?_
 rintro _ w4_ ⟨hx4_,rfl⟩
 refine zaO ?_
 refine zbQ (fun c3=>?_) (fun c3=>?_)
 · refine ⟨(hx1_.trans (hx2_.trans (hx3_.trans hx4_))),?_⟩
   have:¬NamesR c:=fun h=>by rw [h.2.2.1] at c3;cases c3
   simp only [this,decide_false]
 refine zaa zgi ?_
 refine zab zdQ (zcw hA1) (hx2_.trans (hx3_.trans hx4_)) fun v20 h20=>?_
 refine (zbV h20 (hx2_.trans (hx3_.trans hx4_))).mono ?_
 rintro _ w5_ ⟨hx5_,rfl⟩
 refine br (fun c4=>?_) (fun c4=>?_)
 · refine ⟨(hx1_.trans (hx2_.trans (hx3_.trans (hx4_.trans hx5_)))),?_⟩
   have:¬NamesR c:=fun h=>c4 h.2.2.2.1
   simp only [this,decide_false]
 refine zaa zhi ?_
 refine zab zdQ (zd9 hA1) (hx2_.trans (hx3_.trans (hx4_.trans hx5_))) fun v24 h24=>?_
 refine (zbV h24 (hx2_.trans (hx3_.trans (hx4_.trans hx5_)))).mono ?_
 rintro _ w6_ ⟨hx6_,rfl⟩
 refine br (fun c5=>?_) (fun c5=>?_)
 · refine ⟨(hx1_.trans (hx2_.trans (hx3_.trans (hx4_.trans (hx5_.trans hx6_))))),?_⟩
   have:¬NamesR c:=fun h=>c5 h.2.2.2.2.1
   simp only [this,decide_false]
 refine zaa zc5 ?_
 refine zab zdQ (zbe hA1) (hx2_.trans (hx3_.trans (hx4_.trans (hx5_.trans hx6_)))) fun v29 h29=>?_
 refine (zbV h29 (hx2_.trans (hx3_.trans (hx4_.trans (hx5_.trans hx6_))))).mono ?_
 rintro _ w7_ ⟨hx7_,rfl⟩
 refine br (fun c6=>?_) (fun c6=>?_)
 · refine ⟨(hx1_.trans (hx2_.trans (hx3_.trans (hx4_.trans (hx5_.trans (hx6_.trans hx7_)))))),?_⟩
   have:¬NamesR c:=fun h=>c6 h.2.2.2.2.2.1
   simp only [this,decide_false]
 refine zaa zc5 ?_
 refine zab zdQ (zbe hA1) (hx2_.trans (hx3_.trans (hx4_.trans (hx5_.trans (hx6_.trans hx7_))))) fun v33 h33=>?_
 refine (zaV h33 (hx2_.trans (hx3_.trans (hx4_.trans (hx5_.trans (hx6_.trans hx7_)))))).mono ?_
 rintro _ w8_ ⟨hx8_,rfl⟩
 refine ⟨(hx1_.trans (hx2_.trans (hx3_.trans (hx4_.trans (hx5_.trans (hx6_.trans (hx7_.trans hx8_))))))),?_⟩
 congr 1
 rw [decide_eq_decide]
 exact ⟨fun h=>⟨by simpa using c1,by simpa using c2,by simpa using c3,Decidable.not_not.1 c4,Decidable.not_not.1 c5,Decidable.not_not.1 c6,h⟩,fun h=>h.2.2.2.2.2.2⟩
def zh2 (c:DCode):Nat→Nat
 | 0=>0
 | k+1=>zh2 c k+if (zah c k).op=9 then 1 else 0
theorem zmZ (c:DCode):∀ k,zh2 c k≤k
 | 0=>Nat.le_refl _
 | k+1=>by have:=zmZ c k;rw [zh2];split<;>omega
def EntI (c:DCode):Prop:=c.ins.length≤1500∧c.entry.length=c.procs.length∧en c 0=0∧zh2 c c.ins.length=c.entry.length ∧
 ∀ i,i<c.entry.length→en c i<zb4 c i∧zb4 c i≤c.ins.length∧(zah c (zb4 c i-1).toNat).op=9
instance (c:DCode):Decidable (EntI c):=by unfold EntI;infer_instance
theorem zeC {c:DCode} (h0:en c 0=0):∀ {q:Nat},q<c.entry.length→(∀ i,i<q→en c i<zb4 c i)→0≤en c q
 | 0,_,_=>by omega
 | q+1,hq,h=>by
   have h1:=zeC h0 (q:=q) (by omega) fun i hi=>h i (by omega)
   have h2:=h q (by omega)
   unfold zb4 at h2
   rw [if_pos hq] at h2
   omega
def F118 (a0:Value) (w:World) (R:VW):Prop:=
 oP (Instr.box 36 a0) w fun x1 w=>
 rF 36 x1 4 w fun x9=>
 rL 34 x9 w fun x10=>
 rN 34 3 x10 w fun x11=>
 rB .gtr 3 T0 U0 x11 (iV 1500) w fun x12=>
 BR x12
 (R (Value.bool false) w)
 (rF 36 x1 3 w fun x14=>
 rL 33 x14 w fun x15=>
 rN 33 3 x15 w fun x16=>
 rF 36 x1 2 w fun x17=>
 rL 24 x17 w fun x18=>
 rN 24 3 x18 w fun x19=>
 rB .neq 3 T0 T0 x16 x19 w fun x20=>
 BR x20
 (R (Value.bool false) w)
 (rF 36 x1 3 w fun x23=>
 rL 33 x23 w fun x24=>
 rX 33 x24 (iV 0) w fun x25=>
 rL 3 x25 w fun x26=>
 rB .neq 3 T0 U0 x26 (iV 0) w fun x27=>
 BR x27
 (R (Value.bool false) w)
 (rF 36 x1 4 w fun x29=>
 rL 34 x29 w fun x30=>
 rN 34 3 x30 w fun x31=>
 LOOPI [3,32] [(iV 0),(iV 0)] w fun u5 w next5=>
 rC (u5 32) x31 w fun x33=>
 BR x33
 (rX 34 x30 (u5 32) w fun x34=>
 rL 84 x34 w fun x35=>
 oP (Instr.alloc 84 true (.tuple #[])) w fun x5 w=>
 oS 84 x5 x35 w fun w=>
 rF 84 x5 0 w fun x36=>
 rL 3 x36 w fun x37=>
 rB .eql 3 T0 U0 x37 (iV 9) w fun x38=>
 BR x38
 (rA (u5 3) (iV 1) w fun x40=>
 rA (u5 32) (iV 1) w fun x41=>
 next5 [x40,x41] w)
 (rA (u5 32) (iV 1) w fun x41=>
 next5 [(u5 3),x41] w))
 (rF 36 x1 3 w fun x43=>
 rL 33 x43 w fun x44=>
 rN 33 3 x44 w fun x45=>
 rB .neq 3 T0 T0 (u5 3) x45 w fun x46=>
 BR x46
 (R (Value.bool false) w)
 (rF 36 x1 3 w fun x47=>
 rL 33 x47 w fun x48=>
 rN 33 3 x48 w fun x49=>
 LOOPI [50] [(iV 0)] w fun u13 w next13=>
 rC (u13 50) x49 w fun x51=>
 BR x51
 ((fun w=>rF 36 x1 3 w fun x53=>
 rL 33 x53 w fun x54=>
 rX 33 x54 (u13 50) w fun x56=>
 rL 3 x56 w fun x57=>
 rF 36 x1 4 w fun x58=>
 rL 34 x58 w fun x59=>
 rN 34 3 x59 w fun x60=>
 JOIN [8] (fun J18=>
 rA (u13 50) (iV 1) w fun x62=>
 rF 36 x1 3 w fun x63=>
 rL 33 x63 w fun x64=>
 rN 33 3 x64 w fun x65=>
 rC x62 x65 w fun x66=>
 BR x66
 (rF 36 x1 3 w fun x67=>
 rL 33 x67 w fun x68=>
 rA (u13 50) (iV 1) w fun x70=>
 rX 33 x68 x70 w fun x71=>
 rL 3 x71 w fun x72=>
 J18 [x72] w)
 (J18 [x60] w)) (fun u18 w=>
 rB .leq 3 T0 T0 (u18 8) x57 w fun x75=>
 BR x75
 (R (Value.bool false) w)
 (rF 36 x1 4 w fun x78=>
 rL 34 x78 w fun x79=>
 rN 34 3 x79 w fun x80=>
 rB .gtr 3 T0 T0 (u18 8) x80 w fun x81=>
 BR x81
 (R (Value.bool false) w)
 (rF 36 x1 4 w fun x84=>
 rL 34 x84 w fun x85=>
 rB .sub 3 T0 U0 (u18 8) (iV 1) w fun x87=>
 rX 34 x85 x87 w fun x88=>
 rF 84 x88 0 w fun x89=>
 rL 3 x89 w fun x90=>
 rB .neq 3 T0 U0 x90 (iV 9) w fun x91=>
 BR x91
 (R (Value.bool false) w)
 (rA (u13 50) (iV 1) w fun x93=>
 next13 [x93] w))))) (World.drew1 w))
 (R (Value.bool true) w))))))
def cfg118:Cfg:=⟨extL,[(18,9442427122730076733696,[8])],[(5,4393751543848,[3,32]),(13,19807040628564958498479145412,[50])],[(15,[0,1,2,3,4,5,6,7,8,9],0)],[],[],[]⟩
theorem F118_call {a0:Value} {w:World} {R:VW} (h:F118 a0 w R):cL 118 [a0] w R:=co (g:=cfg118) Tryz.func118 (by kernel_rfl) (by kernel_rfl) (by kernel_rfl) h
theorem zgw {w:World} {v0:Value} {W0:World} {c:DCode}  (h0:Is W0 v0 c) (e0:Ext W0 w) (hp:0<c.procs.length) :
   CALL Tryz.prog 118 [v0] w fun r w'=>Ext w w'∧(r=.bool (decide (EntI c))):=by
 refine F118_call ?_
 unfold F118
 refine zbm zfm rfl h0 e0 fun w1_ hx1_ hA1 hV1=>?_
 refine zaa zaK ?_
 refine zab zdG (zat hA1) (Ext.refl w1_) fun v10 h10=>?_
 have hln11:=zan h10
 refine zaf u34 h10 ?_
 refine zdP ?_
 refine br (fun c1=>?_) (fun c1=>?_)
 · refine ⟨hx1_,?_⟩
   have:¬EntI c:=fun h=>by have:=h.1;omega
   simp only [this,decide_false]
 refine zaa zbJ ?_
 refine zab zeL (zaD hA1) (Ext.refl w1_) fun v15 h15=>?_
 have hln16:=zan h15
 refine zaf u33 h15 ?_
 refine zaa zc5 ?_
 refine zab zdQ (zbe hA1) (Ext.refl w1_) fun v18 h18=>?_
 have hln19:=zan h18
 refine zaf u24 h18 ?_
 refine zaT ?_
 refine br (fun c2=>?_) (fun c2=>?_)
 · refine ⟨hx1_,?_⟩
   have:¬EntI c:=fun h=>by have:=h.2.1;omega
   simp only [this,decide_false]
 refine zaa zbJ ?_
 refine zab zeL (zaD hA1) (Ext.refl w1_) fun v24 h24=>?_
 refine zd6 u33 ty3 h24 (by omega) (by omega) fun b25 o25 h25=>?_
 refine zac ty3 h25 (Ext.refl w1_) fun hI26=>?_
 refine zaT ?_
 refine br (fun c3=>?_) (fun c3=>?_)
 · refine ⟨hx1_,?_⟩
   rw [zcH] at c3
   have:¬EntI c:=fun h=>c3 h.2.2.1
   simp only [this,decide_false]
 refine zaa zaK ?_
 refine zab zdG (zat hA1) (Ext.refl w1_) fun v30 h30=>?_
 have hln31:=zan h30
 refine zaf u34 h30 ?_
 refine zaE (c.ins.length) (fun k us w'=>us=[.int .i64 (zh2 c k:Int),.int .i64 (k:Int)]∧Ext w1_ w'∧(True)) (0) (by omega) ⟨rfl,Ext.refl w1_,trivial⟩ ?_
 rintro k m5 uu5 w2_ hk5 ⟨hu,hx2_,hinv⟩
 obtain ⟨hu0,hu1⟩:=zey hu;clear hu
 try rw [hu0]
 try rw [hu1]
 try clear hu0 hu1
 have hel:=zmZ c k
 refine zal ?_
 refine br (fun c4=>?_) (fun c4=>?_)
 · refine zad u34 zem h30 (by omega) fun b34 o34 h34=>?_
   refine zab zem h34 hx2_ fun v35 h35=>?_
   rw [zaY] at h35
   refine zbB zqc rfl zem rfl h35 hx2_ fun w3_ hx3_ hA5 hV5=>?_
   refine zaa zbK ?_
   refine zac ty3 (zaG hA5) (Ext.refl w3_) fun hI37=>?_
   refine zai ?_
   refine br (fun c5=>?_) (fun c5=>?_)
   · refine zag (by omega) ?_
     refine zag (by omega) ?_
     refine ⟨m5-1,by omega,k+1,by omega,by rw [zh2,if_pos c5],(hx2_.trans hx3_),?_⟩
     trivial
   refine zag (by omega) ?_
   refine ⟨m5-1,by omega,k+1,by omega,by rw [zh2,if_neg c5];rfl,(hx2_.trans hx3_),?_⟩
   trivial
 refine zaa zbJ ?_
 refine zab zeL (zaD hA1) hx2_ fun v44 h44=>?_
 have hln45:=zan h44
 refine zaf u33 h44 ?_
 refine zaT ?_
 refine br (fun c6=>?_) (fun c6=>?_)
 · refine ⟨(hx1_.trans hx2_),?_⟩
   have:¬EntI c:=fun h=>c6 (by rw [show k=c.ins.length by omega,h.2.2.2.1])
   simp only [this,decide_false]
 refine zaa zbJ ?_
 refine zab zeL (zaD hA1) hx2_ fun v48 h48=>?_
 have hln49:=zan h48
 refine zaf u33 h48 ?_
 refine zaE (c.entry.length) (fun q us w'=>us=[.int .i64 (q:Int)]∧Ext w2_ w'∧(∀ i,i<q→en c i<zb4 c i∧zb4 c i≤c.ins.length∧(zah c (zb4 c i-1).toNat).op=9)) (0) (by omega) ⟨by simp,Ext.refl w2_,fun i h=>by omega⟩ ?_
 rintro q m13 uu13 w4_ hk13 ⟨hu,hx4_,hent⟩
 simp only [List.map_cons,List.map_nil,List.cons.injEq,and_true] at hu
 try rw [hu]
 try clear hu
 refine zal ?_
 refine br (fun c7=>?_) (fun c7=>?_)
 · have hx5_:=zao w4_
   refine zaa zbJ ?_
   refine zab zeL (zaD hA1) (hx2_.trans (hx4_.trans hx5_)) fun v54 h54=>?_
   refine zad u33 ty3 h54 (by omega) fun b56 o56 h56=>?_
   refine zac ty3 h56 (hx2_.trans (hx4_.trans hx5_)) fun hI57=>?_
   refine zaa zaK ?_
   refine zab zdG (zat hA1) (hx2_.trans (hx4_.trans hx5_)) fun v59 h59=>?_
   have hln60:=zan h59
   refine zaf u34 h59 ?_
   refine JOIN.mk (fun us w'=>us=[.int .i64 (zb4 c q)]∧Ext (World.drew1 w4_) w'∧(True)) ?_ ?_
   · refine zag (by omega) ?_
     refine zaa zbJ ?_
     refine zab zeL (zaD hA1) (hx2_.trans (hx4_.trans hx5_)) fun v64 h64=>?_
     have hln65:=zan h64
     refine zaf u33 h64 ?_
     refine zal ?_
     refine br (fun c8=>?_) (fun c8=>?_)
     · refine zaa zbJ ?_
       refine zab zeL (zaD hA1) (hx2_.trans (hx4_.trans hx5_)) fun v68 h68=>?_
       refine zag (by omega) ?_
       refine zad u33 ty3 h68 (by omega) fun b71 o71 h71=>?_
       refine zac ty3 h71 (hx2_.trans (hx4_.trans hx5_)) fun hI72=>?_
       refine ⟨by unfold zb4;rw [if_pos (by omega),zcH],Ext.refl (World.drew1 w4_),?_⟩
       trivial
     refine ⟨by unfold zb4;rw [if_neg (by omega)],Ext.refl (World.drew1 w4_),?_⟩
     trivial
   rintro uj18 w6_ ⟨hu,hx6_,hinv⟩
   simp only [List.map_cons,List.map_nil,List.cons.injEq,and_true] at hu
   try rw [hu]
   try clear hu
   refine zeU ?_
   refine br (fun c9=>?_) (fun c9=>?_)
   · refine ⟨(hx1_.trans (hx2_.trans (hx4_.trans (hx5_.trans hx6_)))),?_⟩
     rw [zcH] at c9
     have:¬EntI c:=fun h=>by have:=(h.2.2.2.2 q (by omega)).1;omega
     simp only [this,decide_false]
   refine zaa zaK ?_
   refine zab zdG (zat hA1) (hx2_.trans (hx4_.trans (hx5_.trans hx6_))) fun v79 h79=>?_
   have hln80:=zan h79
   refine zaf u34 h79 ?_
   refine zdP ?_
   refine br (fun c10=>?_) (fun c10=>?_)
   · refine ⟨(hx1_.trans (hx2_.trans (hx4_.trans (hx5_.trans hx6_)))),?_⟩
     have:¬EntI c:=fun h=>by have:=(h.2.2.2.2 q (by omega)).2.1;omega
     simp only [this,decide_false]
   refine zaa zaK ?_
   refine zab zdG (zat hA1) (hx2_.trans (hx4_.trans (hx5_.trans hx6_))) fun v85 h85=>?_
   rw [zcH] at c3 c9
   have hq0:=zeC (Decidable.not_not.1 c3) (q:=q) (by omega) fun i hi=>(hent i hi).1
   refine zck (by unfold I64;omega) ?_
   refine zd6 u34 zem h85 (by omega) (by omega) fun b88 o88 h88=>?_
   refine zaa zbK ?_
   refine zac ty3 (zaG h88) (hx2_.trans (hx4_.trans (hx5_.trans hx6_))) fun hI90=>?_
   refine zaT ?_
   refine br (fun c11=>?_) (fun c11=>?_)
   · refine ⟨(hx1_.trans (hx2_.trans (hx4_.trans (hx5_.trans hx6_)))),?_⟩
     rw [zaY] at c11
     have:¬EntI c:=fun h=>c11 (h.2.2.2.2 q (by omega)).2.2
     simp only [this,decide_false]
   refine zag (by omega) ?_
   refine ⟨m13-1,by omega,q+1,by omega,by simp,(hx4_.trans (hx5_.trans hx6_)),?_⟩
   rw [zaY] at c11
   exact zoH hent ⟨by omega,by omega,Decidable.not_not.1 c11⟩
 refine ⟨(hx1_.trans (hx2_.trans hx4_)),?_⟩
 rw [zcH] at c3
 have:EntI c:=⟨by omega,by omega,Decidable.not_not.1 c3,by rw [show c.ins.length=k by omega];omega,fun i hi=>hent i (by omega)⟩
 simp only [this,decide_true]
def F188 (a0 a1:Value) (w:World) (R:VW):Prop:=
 oP (Instr.box 36 a0) w fun x2 w=>
 rB .eql 3 T0 U0 a1 (iV 1) w fun x7=>
 BR x7
 (rF 36 x2 0 w fun x8=>
 rL 24 x8 w fun x9=>
 rN 24 3 x9 w fun x10=>
 R x10 w)
 (rB .eql 3 T0 U0 a1 (iV 4) w fun x12=>
 BR x12
 (rF 36 x2 2 w fun x14=>
 rL 24 x14 w fun x15=>
 rN 24 3 x15 w fun x16=>
 R x16 w)
 (rB .eql 3 T0 U0 a1 (iV 5) w fun x13=>
 BR x13
 (rF 36 x2 2 w fun x14=>
 rL 24 x14 w fun x15=>
 rN 24 3 x15 w fun x16=>
 R x16 w)
 (rB .eql 3 T0 U0 a1 (iV 6) w fun x18=>
 BR x18
 (rF 36 x2 1 w fun x20=>
 rL 24 x20 w fun x21=>
 rN 24 3 x21 w fun x22=>
 R x22 w)
 (rB .eql 3 T0 U0 a1 (iV 7) w fun x19=>
 BR x19
 (rF 36 x2 1 w fun x20=>
 rL 24 x20 w fun x21=>
 rN 24 3 x21 w fun x22=>
 R x22 w)
 (R (iV 1) w)))))
def cfg188:Cfg:=⟨extL,[],[],[],[],[],[]⟩
theorem F188_call {a0 a1:Value} {w:World} {R:VW} (h:F188 a0 a1 w R):cL 188 [a0,a1] w R:=co (g:=cfg188) Tryz.func188 (by kernel_rfl) (by kernel_rfl) (by kernel_rfl) h
theorem zlR {w:World} {v0:Value} {W0:World} {c:DCode} {op:Int}  (h0:Is W0 v0 c) (e0:Ext W0 w)  :
   CALL Tryz.prog 188 [v0,.int .i64 op] w fun r w'=>Ext w w'∧(r=.int .i64 (zbX c op)):=by
 refine F188_call ?_
 unfold F188
 refine zbm zfm rfl h0 e0 fun w1_ hx1_ hA2 hV2=>?_
 refine zai ?_
 refine br (fun c1=>?_) (fun c1=>?_)
 · refine zaa zgi ?_
   refine zab zdQ (zcw hA2) (Ext.refl w1_) fun v9 h9=>?_
   have hln10:=zan h9
   refine zaf u24 h9 ?_
   refine ⟨hx1_,?_⟩
   unfold zbX;rw [if_pos c1]
 refine zai ?_
 refine br (fun c2=>?_) (fun c2=>?_)
 · refine zaa zc5 ?_
   refine zab zdQ (zbe hA2) (Ext.refl w1_) fun v15 h15=>?_
   have hln16:=zan h15
   refine zaf u24 h15 ?_
   refine ⟨hx1_,?_⟩
   unfold zbX;rw [if_neg (by omega),if_pos (by omega)]
 refine zai ?_
 refine br (fun c3=>?_) (fun c3=>?_)
 · refine zaa zc5 ?_
   refine zab zdQ (zbe hA2) (Ext.refl w1_) fun v15 h15=>?_
   have hln16:=zan h15
   refine zaf u24 h15 ?_
   refine ⟨hx1_,?_⟩
   unfold zbX;rw [if_neg (by omega),if_pos (by omega)]
 refine zai ?_
 refine br (fun c4=>?_) (fun c4=>?_)
 · refine zaa zhi ?_
   refine zab zdQ (zd9 hA2) (Ext.refl w1_) fun v21 h21=>?_
   have hln22:=zan h21
   refine zaf u24 h21 ?_
   refine ⟨hx1_,?_⟩
   unfold zbX;rw [if_neg (by omega),if_neg (by omega),if_pos (by omega)]
 refine zai ?_
 refine br (fun c5=>?_) (fun c5=>?_)
 · refine zaa zhi ?_
   refine zab zdQ (zd9 hA2) (Ext.refl w1_) fun v21 h21=>?_
   have hln22:=zan h21
   refine zaf u24 h21 ?_
   refine ⟨hx1_,?_⟩
   unfold zbX;rw [if_neg (by omega),if_neg (by omega),if_pos (by omega)]
 refine ⟨hx1_,?_⟩
 unfold zbX;rw [if_neg (by omega),if_neg (by omega),if_neg (by omega)]
def F120 (a0 a1 a2 a3:Value) (w:World) (R:VW):Prop:=
 oP (Instr.box 36 a0) w fun x4 w=>
 oP (Instr.box 84 a1) w fun x5 w=>
 (fun w=>rF 84 x5 0 w fun x11=>
 rL 3 x11 w fun x12=>
 rB .lss 3 T0 U0 x12 (iV 1) w fun x13=>
 BR x13
 (R (Value.bool false) w)
 (rF 84 x5 0 w fun x15=>
 rL 3 x15 w fun x16=>
 rB .gtr 3 T0 U0 x16 (iV 9) w fun x17=>
 BR x17
 (R (Value.bool false) w)
 (rF 84 x5 1 w fun x20=>
 rL 3 x20 w fun x21=>
 rB .lss 3 T0 U0 x21 (iV 0) w fun x22=>
 BR x22
 (R (Value.bool false) w)
 (rF 84 x5 1 w fun x25=>
 rL 3 x25 w fun x26=>
 rL 36 x4 w fun x27=>
 rF 84 x5 0 w fun x28=>
 rL 3 x28 w fun x29=>
 (fun w_=>cL 188 [x27,x29] w_ fun x30 w=>
 Ext w_ w ∧
 rB .geq 3 T0 T0 x26 x30 w fun x31=>
 BR x31
 (R (Value.bool false) w)
 (JOIN [] (fun J14=>
 rF 84 x5 0 w fun x33=>
 rL 3 x33 w fun x34=>
 rB .eql 3 T0 U0 x34 (iV 1) w fun x35=>
 BR x35
 (rF 84 x5 2 w fun x41=>
 rL 53 x41 w fun x42=>
 cL 189 [x42] w fun x43 w=>
 rD (Op.unary .not x43) w fun x44=>
 BR x44
 (R (Value.bool false) w)
 (rF 84 x5 2 w fun x45=>
 rL 53 x45 w fun x46=>
 cL 182 [x46] w fun x47 w=>
 rN 24 3 x47 w fun x48=>
 LOOPI [49] [(iV 0)] w fun u7 w next7=>
 rC (u7 49) x48 w fun x50=>
 BR x50
 (rX 24 x47 (u7 49) w fun x51=>
 rL 9 x51 w fun x52=>
 rF 36 x4 0 w fun x53=>
 rL 24 x53 w fun x54=>
 cL 99 [x54,x52] w fun x56 w=>
 rD (Op.unary .not x56) w fun x57=>
 BR x57
 (R (Value.bool false) w)
 (rA (u7 49) (iV 1) w fun x58=>
 next7 [x58] w))
 (J14 [] w)))
 (rF 84 x5 0 w fun x37=>
 rL 3 x37 w fun x38=>
 rB .eql 3 T0 U0 x38 (iV 2) w fun x39=>
 BR x39
 (rF 84 x5 2 w fun x41=>
 rL 53 x41 w fun x42=>
 cL 189 [x42] w fun x43 w=>
 rD (Op.unary .not x43) w fun x44=>
 BR x44
 (R (Value.bool false) w)
 (rF 84 x5 2 w fun x45=>
 rL 53 x45 w fun x46=>
 cL 182 [x46] w fun x47 w=>
 rN 24 3 x47 w fun x48=>
 LOOPI [49] [(iV 0)] w fun u7 w next7=>
 rC (u7 49) x48 w fun x50=>
 BR x50
 (rX 24 x47 (u7 49) w fun x51=>
 rL 9 x51 w fun x52=>
 rF 36 x4 0 w fun x53=>
 rL 24 x53 w fun x54=>
 cL 99 [x54,x52] w fun x56 w=>
 rD (Op.unary .not x56) w fun x57=>
 BR x57
 (R (Value.bool false) w)
 (rA (u7 49) (iV 1) w fun x58=>
 next7 [x58] w))
 (J14 [] w)))
 (rF 84 x5 2 w fun x59=>
 rL 53 x59 w fun x60=>
 cL 190 [x60] w fun x61 w=>
 rD (Op.unary .not x61) w fun x62=>
 BR x62
 (R (Value.bool false) w)
 (J14 [] w)))) (fun u14 w=>
 rF 84 x5 0 w fun x63=>
 rL 3 x63 w fun x64=>
 rB .eql 3 T0 U0 x64 (iV 2) w fun x65=>
 BR x65
 (rF 84 x5 3 w fun x71=>
 rL 3 x71 w fun x72=>
 rB .geq 3 T0 T0 x72 a2 w fun x74=>
 BR x74
 (rF 84 x5 3 w fun x76=>
 rL 3 x76 w fun x77=>
 rC x77 a3 w fun x79=>
 R x79 w)
 (R (Value.bool false) w))
 (rF 84 x5 0 w fun x67=>
 rL 3 x67 w fun x68=>
 rB .eql 3 T0 U0 x68 (iV 3) w fun x69=>
 BR x69
 (rF 84 x5 3 w fun x71=>
 rL 3 x71 w fun x72=>
 rB .geq 3 T0 T0 x72 a2 w fun x74=>
 BR x74
 (rF 84 x5 3 w fun x76=>
 rL 3 x76 w fun x77=>
 rC x77 a3 w fun x79=>
 R x79 w)
 (R (Value.bool false) w))
 (rF 84 x5 3 w fun x81=>
 rL 3 x81 w fun x82=>
 rB .eql 3 T0 U0 x82 (iV 0) w fun x83=>
 R x83 w))))) w)))) (World.drew1 w)
def cfg120:Cfg:=⟨extL,[(14,9223372028264842496,[])],[(7,575897802350003456,[49])],[(1,[0,1,2,3,4,5,6,7,8,9,10,11,12,13,14,15,16,17,18,19,20,21],524288)],[],[],[]⟩
theorem F120_call {a0 a1 a2 a3:Value} {w:World} {R:VW} (h:F120 a0 a1 a2 a3 w R):cL 120 [a0,a1,a2,a3] w R:=co (g:=cfg120) Tryz.func120 (by kernel_rfl) (by kernel_rfl) (by kernel_rfl) h
theorem zj2 {w:World} {v0:Value} {W0:World} {c:DCode} {v1:Value} {W1:World} {a:DIns} {b:Int} {e:Int}  (h0:Is W0 v0 c) (e0:Ext W0 w) (h1:Is W1 v1 a) (e1:Ext W1 w)  :
   CALL Tryz.prog 120 [v0,v1,.int .i64 b,.int .i64 e] w fun r w'=>Ext w w'∧(r=.bool (decide (zg6 c a b e))):=by
 refine F120_call ?_
 unfold F120
 refine zbm zfm rfl h0 e0 fun w1_ hx1_ hA4 hV4=>?_
 refine zbm zem rfl h1 (e1.trans hx1_) fun w2_ hx2_ hA5 hV5=>?_
 have hx3_:=zao w2_
 refine zaa zbK ?_
 refine zac ty3 (zaG hA5) hx3_ fun hI12=>?_
 refine zal ?_
 refine br (fun c1=>?_) (fun c1=>?_)
 · refine ⟨(hx1_.trans (hx2_.trans hx3_)),?_⟩
   have:¬zg6 c a b e:=fun h=>by have:=h.1;omega
   simp only [this,decide_false]
 refine zaa zbK ?_
 refine zac ty3 (zaG hA5) hx3_ fun hI16=>?_
 refine zdP ?_
 refine br (fun c2=>?_) (fun c2=>?_)
 · refine ⟨(hx1_.trans (hx2_.trans hx3_)),?_⟩
   have:¬zg6 c a b e:=fun h=>by have:=h.1;omega
   simp only [this,decide_false]
 refine zaa zcl ?_
 refine zac ty3 (zaQ hA5) hx3_ fun hI21=>?_
 refine zal ?_
 refine br (fun c3=>?_) (fun c3=>?_)
 · refine ⟨(hx1_.trans (hx2_.trans hx3_)),?_⟩
   have:¬zg6 c a b e:=fun h=>by have:=h.2.1;omega
   simp only [this,decide_false]
 refine zaa zcl ?_
 refine zac ty3 (zaQ hA5) hx3_ fun hI26=>?_
 refine zdF hV4 (hx2_.trans hx3_) ?_
 refine zaa zbK ?_
 refine zac ty3 (zaG hA5) hx3_ fun hI29=>?_
 refine (zlR h0 (e0.trans (hx1_.trans (hx2_.trans hx3_)))).mono ?_
 rintro _ w4_ ⟨hx4_,rfl⟩
 refine ⟨hx4_,?_⟩
 refine zdD ?_
 refine br (fun c4=>?_) (fun c4=>?_)
 · refine ⟨(hx1_.trans (hx2_.trans (hx3_.trans hx4_))),?_⟩
   have:¬zg6 c a b e:=fun h=>by have:=h.2.1;omega
   simp only [this,decide_false]
 refine JOIN.mk (fun us w'=>us=[]∧Ext w4_ w'∧(if a.op=1∨a.op=2 then zaX 6 a.term=true∧(∀ s∈zbn a.term,s∈c.globals) else a.term=zaM)) ?_ ?_
 · refine zaa zbK ?_
   refine zac ty3 (zaG hA5) (hx3_.trans hx4_) fun hI34=>?_
   refine zai ?_
   refine br (fun c5=>?_) (fun c5=>?_)
   · refine zaa zhl ?_
     refine zab zcn (zdc hA5) (hx3_.trans hx4_) fun v42 h42=>?_
     refine (zbx h42 (hx3_.trans hx4_)).mono ?_
     rintro _ w6_ ⟨hx6_,rfl⟩
     refine zaO ?_
     refine zbQ (fun c6=>?_) (fun c6=>?_)
     · refine ⟨(hx1_.trans (hx2_.trans (hx3_.trans (hx4_.trans hx6_)))),?_⟩
       have:¬zg6 c a b e:=fun h=>by have:=h.2.2.1;rw [if_pos (.inl c5)] at this;rw [this.1] at c6;cases c6
       simp only [this,decide_false]
     refine zaa zhl ?_
     refine zab zcn (zdc hA5) (hx3_.trans (hx4_.trans hx6_)) fun v46 h46=>?_
     refine (zb3 h46 (hx3_.trans (hx4_.trans hx6_))).mono ?_
     rintro r47 w7_ ⟨hx7_,h47⟩
     have hln48:=zan h47
     refine zaf u24 h47 ?_
     refine zaE ((zbn a.term).length) (fun k us w'=>us=[.int .i64 (k:Int)]∧Ext w7_ w'∧(∀ s∈(zbn a.term).take k,s∈c.globals)) (0) (by omega) ⟨by simp,Ext.refl w7_,by simp⟩ ?_
     rintro k m7 uu7 w8_ hk7 ⟨hu,hx8_,hinv⟩
     simp only [List.map_cons,List.map_nil,List.cons.injEq,and_true] at hu
     try rw [hu]
     try clear hu
     refine zal ?_
     refine br (fun c7=>?_) (fun c7=>?_)
     · refine zad u24 ty9 h47 (by omega) fun b51 o51 h51=>?_
       refine zaA ty9 h51 hx8_ fun hS52=>?_
       refine zaa zgi ?_
       refine zab zdQ (zcw hA4) (hx2_.trans (hx3_.trans (hx4_.trans (hx6_.trans (hx7_.trans hx8_))))) fun v54 h54=>?_
       refine (zaV h54 (hx2_.trans (hx3_.trans (hx4_.trans (hx6_.trans (hx7_.trans hx8_)))))).mono ?_
       rintro _ w9_ ⟨hx9_,rfl⟩
       refine zbw ?_
       refine br (fun c8=>?_) (fun c8=>?_)
       · refine ⟨(hx1_.trans (hx2_.trans (hx3_.trans (hx4_.trans (hx6_.trans (hx7_.trans (hx8_.trans hx9_))))))),?_⟩
         have:¬zg6 c a b e:=fun h=>by
           have:=h.2.2.1;rw [if_pos (.inl c5)] at this
           exact c8 (this.2 _ (List.getElem_mem (n:=k) (by omega)))
         simp only [this,decide_false]
       refine zag (by omega) ?_
       refine ⟨m7-1,by omega,k+1,by omega,by simp,(hx8_.trans hx9_),?_⟩
       intro s hs
       rw [List.take_succ_eq_append_getElem (by omega)] at hs
       rcases List.mem_append.1 hs with hs | hs
       · exact hinv s hs
       simp only [List.mem_cons,List.not_mem_nil,or_false] at hs
       subst hs
       exact Decidable.not_not.1 c8
     refine ⟨by simp,(hx6_.trans (hx7_.trans hx8_)),?_⟩
     rw [if_pos (.inl c5)]
     rw [List.take_of_length_le (by omega)] at hinv
     exact ⟨by simpa using c6,hinv⟩
   refine zaa zbK ?_
   refine zac ty3 (zaG hA5) (hx3_.trans hx4_) fun hI38=>?_
   refine zai ?_
   refine br (fun c9=>?_) (fun c9=>?_)
   · refine zaa zhl ?_
     refine zab zcn (zdc hA5) (hx3_.trans hx4_) fun v42 h42=>?_
     refine (zbx h42 (hx3_.trans hx4_)).mono ?_
     rintro _ w10_ ⟨hx10_,rfl⟩
     refine zaO ?_
     refine zbQ (fun c10=>?_) (fun c10=>?_)
     · refine ⟨(hx1_.trans (hx2_.trans (hx3_.trans (hx4_.trans hx10_)))),?_⟩
       have:¬zg6 c a b e:=fun h=>by have:=h.2.2.1;rw [if_pos (.inr c9)] at this;rw [this.1] at c10;cases c10
       simp only [this,decide_false]
     refine zaa zhl ?_
     refine zab zcn (zdc hA5) (hx3_.trans (hx4_.trans hx10_)) fun v46 h46=>?_
     refine (zb3 h46 (hx3_.trans (hx4_.trans hx10_))).mono ?_
     rintro r47 w11_ ⟨hx11_,h47⟩
     have hln48:=zan h47
     refine zaf u24 h47 ?_
     refine zaE ((zbn a.term).length) (fun k us w'=>us=[.int .i64 (k:Int)]∧Ext w11_ w'∧(∀ s∈(zbn a.term).take k,s∈c.globals)) (0) (by omega) ⟨by simp,Ext.refl w11_,by simp⟩ ?_
     rintro k m7 uu7 w12_ hk7 ⟨hu,hx12_,hinv⟩
     simp only [List.map_cons,List.map_nil,List.cons.injEq,and_true] at hu
     try rw [hu]
     try clear hu
     refine zal ?_
     refine br (fun c11=>?_) (fun c11=>?_)
     · refine zad u24 ty9 h47 (by omega) fun b51 o51 h51=>?_
       refine zaA ty9 h51 hx12_ fun hS52=>?_
       refine zaa zgi ?_
       refine zab zdQ (zcw hA4) (hx2_.trans (hx3_.trans (hx4_.trans (hx10_.trans (hx11_.trans hx12_))))) fun v54 h54=>?_
       refine (zaV h54 (hx2_.trans (hx3_.trans (hx4_.trans (hx10_.trans (hx11_.trans hx12_)))))).mono ?_
       rintro _ w13_ ⟨hx13_,rfl⟩
       refine zbw ?_
       refine br (fun c12=>?_) (fun c12=>?_)
       · refine ⟨(hx1_.trans (hx2_.trans (hx3_.trans (hx4_.trans (hx10_.trans (hx11_.trans (hx12_.trans hx13_))))))),?_⟩
         have:¬zg6 c a b e:=fun h=>by
           have:=h.2.2.1;rw [if_pos (.inr c9)] at this
           exact c12 (this.2 _ (List.getElem_mem (n:=k) (by omega)))
         simp only [this,decide_false]
       refine zag (by omega) ?_
       refine ⟨m7-1,by omega,k+1,by omega,by simp,(hx12_.trans hx13_),?_⟩
       intro s hs
       rw [List.take_succ_eq_append_getElem (by omega)] at hs
       rcases List.mem_append.1 hs with hs | hs
       · exact hinv s hs
       simp only [List.mem_cons,List.not_mem_nil,or_false] at hs
       subst hs
       exact Decidable.not_not.1 c12
     refine ⟨by simp,(hx10_.trans (hx11_.trans hx12_)),?_⟩
     rw [if_pos (.inr c9)]
     rw [List.take_of_length_le (by omega)] at hinv
     exact ⟨by simpa using c10,hinv⟩
   refine zaa zhl ?_
   refine zab zcn (zdc hA5) (hx3_.trans hx4_) fun v60 h60=>?_
   refine (zby h60 (hx3_.trans hx4_)).mono ?_
   rintro _ w14_ ⟨hx14_,rfl⟩
   refine zbw ?_
   refine br (fun c13=>?_) (fun c13=>?_)
   · refine ⟨(hx1_.trans (hx2_.trans (hx3_.trans (hx4_.trans hx14_)))),?_⟩
     have:¬zg6 c a b e:=fun h=>by have:=h.2.2.1;rw [if_neg (by omega)] at this;exact c13 this
     simp only [this,decide_false]
   refine ⟨by simp,hx14_,?_⟩
   rw [if_neg (by omega)]
   exact Decidable.not_not.1 c13
 rintro uj14 w5_ ⟨hu,hx14_,hT⟩
 simp only [List.map_cons,List.map_nil,List.cons.injEq,and_true] at hu
 clear hu
 refine zaa zbK ?_
 refine zac ty3 (zaG hA5) (hx3_.trans (hx4_.trans hx14_)) fun hI64=>?_
 refine zai ?_
 refine br (fun c14=>?_) (fun c14=>?_)
 · refine zaa zeX ?_
   refine zac ty3 (zb8 hA5) (hx3_.trans (hx4_.trans hx14_)) fun hI72=>?_
   refine zdD ?_
   refine br (fun c15=>?_) (fun c15=>?_)
   · refine zaa zeX ?_
     refine zac ty3 (zb8 hA5) (hx3_.trans (hx4_.trans hx14_)) fun hI77=>?_
     refine zal ?_
     refine ⟨(hx1_.trans (hx2_.trans (hx3_.trans (hx4_.trans hx14_)))),?_⟩
     first
       | (have no:¬zg6 c a b e:=fun h=>by
           have h4:=h.2.2.2;rw [if_pos (by omega)] at h4;omega
          simp only [no,decide_false]
          done)
       | (congr 1
          rw [decide_eq_decide]
          constructor
          · exact fun h=>⟨by omega,by omega,hT,by first | (rw [if_pos (by omega)];omega) | (rw [if_neg (by omega)];omega)⟩
          intro h
          have h4:=h.2.2.2
          first | (rw [if_pos (by omega)] at h4;omega) | (rw [if_neg (by omega)] at h4;omega))
   refine ⟨(hx1_.trans (hx2_.trans (hx3_.trans (hx4_.trans hx14_)))),?_⟩
   first
     | (have no:¬zg6 c a b e:=fun h=>by
         have h4:=h.2.2.2;rw [if_pos (by omega)] at h4;omega
        simp only [no,decide_false]
        done)
     | (congr 1
        rw [decide_eq_decide]
        constructor
        · exact fun h=>⟨by omega,by omega,hT,by first | (rw [if_pos (by omega)];omega) | (rw [if_neg (by omega)];omega)⟩
        intro h
        have h4:=h.2.2.2
        first | (rw [if_pos (by omega)] at h4;omega) | (rw [if_neg (by omega)] at h4;omega))
 refine zaa zbK ?_
 refine zac ty3 (zaG hA5) (hx3_.trans (hx4_.trans hx14_)) fun hI68=>?_
 refine zai ?_
 refine br (fun c16=>?_) (fun c16=>?_)
 · refine zaa zeX ?_
   refine zac ty3 (zb8 hA5) (hx3_.trans (hx4_.trans hx14_)) fun hI72=>?_
   refine zdD ?_
   refine br (fun c17=>?_) (fun c17=>?_)
   · refine zaa zeX ?_
     refine zac ty3 (zb8 hA5) (hx3_.trans (hx4_.trans hx14_)) fun hI77=>?_
     refine zal ?_
     refine ⟨(hx1_.trans (hx2_.trans (hx3_.trans (hx4_.trans hx14_)))),?_⟩
     first
       | (have no:¬zg6 c a b e:=fun h=>by
           have h4:=h.2.2.2;rw [if_pos (by omega)] at h4;omega
          simp only [no,decide_false]
          done)
       | (congr 1
          rw [decide_eq_decide]
          constructor
          · exact fun h=>⟨by omega,by omega,hT,by first | (rw [if_pos (by omega)];omega) | (rw [if_neg (by omega)];omega)⟩
          intro h
          have h4:=h.2.2.2
          first | (rw [if_pos (by omega)] at h4;omega) | (rw [if_neg (by omega)] at h4;omega))
   refine ⟨(hx1_.trans (hx2_.trans (hx3_.trans (hx4_.trans hx14_)))),?_⟩
   first
     | (have no:¬zg6 c a b e:=fun h=>by
         have h4:=h.2.2.2;rw [if_pos (by omega)] at h4;omega
        simp only [no,decide_false]
        done)
     | (congr 1
        rw [decide_eq_decide]
        constructor
        · exact fun h=>⟨by omega,by omega,hT,by first | (rw [if_pos (by omega)];omega) | (rw [if_neg (by omega)];omega)⟩
        intro h
        have h4:=h.2.2.2
        first | (rw [if_pos (by omega)] at h4;omega) | (rw [if_neg (by omega)] at h4;omega))
 refine zaa zeX ?_
 refine zac ty3 (zb8 hA5) (hx3_.trans (hx4_.trans hx14_)) fun hI82=>?_
 refine zai ?_
 refine ⟨(hx1_.trans (hx2_.trans (hx3_.trans (hx4_.trans hx14_)))),?_⟩
 first
   | (have no:¬zg6 c a b e:=fun h=>by
       have h4:=h.2.2.2;rw [if_pos (by omega)] at h4;omega
      simp only [no,decide_false]
      done)
   | (congr 1
      rw [decide_eq_decide]
      constructor
      · exact fun h=>⟨by omega,by omega,hT,by first | (rw [if_pos (by omega)];omega) | (rw [if_neg (by omega)];omega)⟩
      intro h
      have h4:=h.2.2.2
      first | (rw [if_pos (by omega)] at h4;omega) | (rw [if_neg (by omega)] at h4;omega))
def F119 (a0 a1:Value) (w:World) (R:VW):Prop:=
 oP (Instr.box 36 a0) w fun x2 w=>
 rA a1 (iV 1) w fun x6=>
 rF 36 x2 3 w fun x7=>
 rL 33 x7 w fun x8=>
 rN 33 3 x8 w fun x9=>
 rC x6 x9 w fun x10=>
 BR x10
 (rF 36 x2 3 w fun x11=>
 rL 33 x11 w fun x12=>
 rA a1 (iV 1) w fun x14=>
 rX 33 x12 x14 w fun x15=>
 rL 3 x15 w fun x16=>
 R x16 w)
 (rF 36 x2 4 w fun x17=>
 rL 34 x17 w fun x18=>
 rN 34 3 x18 w fun x19=>
 R x19 w)
def cfg119:Cfg:=⟨extL,[],[],[],[],[],[]⟩
theorem F119_call {a0 a1:Value} {w:World} {R:VW} (h:F119 a0 a1 w R):cL 119 [a0,a1] w R:=co (g:=cfg119) Tryz.func119 (by kernel_rfl) (by kernel_rfl) (by kernel_rfl) h
theorem zca {w:World} {v0:Value} {W0:World} {c:DCode} {i:Nat}  (h0:Is W0 v0 c) (e0:Ext W0 w) (hi:i<1000000000000) :
   CALL Tryz.prog 119 [v0,.int .i64 (i:Int)] w fun r w'=>Ext w w'∧(r=.int .i64 (zb4 c i)):=by
 refine F119_call ?_
 unfold F119
 refine zbm zfm rfl h0 e0 fun w1_ hx1_ hA2 hV2=>?_
 refine zag (by omega) ?_
 refine zaa zbJ ?_
 refine zab zeL (zaD hA2) (Ext.refl w1_) fun v8 h8=>?_
 have hln9:=zan h8
 refine zaf u33 h8 ?_
 refine zal ?_
 refine br (fun c1=>?_) (fun c1=>?_)
 · refine zaa zbJ ?_
   refine zab zeL (zaD hA2) (Ext.refl w1_) fun v12 h12=>?_
   refine zag (by omega) ?_
   refine zad u33 ty3 h12 (by omega) fun b15 o15 h15=>?_
   refine zac ty3 h15 (Ext.refl w1_) fun hI16=>?_
   refine ⟨hx1_,?_⟩
   unfold zb4;rw [if_pos (by omega),zcH]
 refine zaa zaK ?_
 refine zab zdG (zat hA2) (Ext.refl w1_) fun v18 h18=>?_
 have hln19:=zan h18
 refine zaf u34 h18 ?_
 refine ⟨hx1_,?_⟩
 unfold zb4;rw [if_neg (by omega)]
structure EntF (c:DCode):Prop where
 len:c.entry.length=c.procs.length
 ins:c.ins.length≤1500
 zero:en c 0=0
 lt:∀ i,i<c.entry.length→en c i<zb4 c i∧zb4 c i≤c.ins.length
theorem EntF.nonneg {c:DCode} (h:EntF c) {i:Nat} (hi:i<c.entry.length):0≤en c i:=zeC h.zero hi fun j hj=>(h.lt j (by omega)).1
theorem EntF.step {c:DCode} (h:EntF c) {i:Nat} (hi:i+1<c.entry.length):zb4 c i=en c (i+1):=by unfold zb4;rw [if_pos hi]
theorem EntF.last {c:DCode} (h:EntF c) {i:Nat} (hi:i+1=c.entry.length):zb4 c i=c.ins.length:=by unfold zb4;rw [if_neg (by omega)]
theorem EntF.mono {c:DCode} (h:EntF c):∀ {i j:Nat},i<j→j<c.entry.length→zb4 c i≤en c j
 | i,j+1,hij,hj=>by
   by_cases e:i=j
   · subst e;rw [h.step hj];exact Int.le_refl _
   have h1:=h.mono (i:=i) (j:=j) (by omega) (by omega)
   have h2:=(h.lt j (by omega)).1
   rw [h.step hj] at h2
   omega
theorem EntF.proc {c:DCode} (h:EntF c) {i:Nat} {a:Int} (hi:i<c.entry.length) (h1:en c i≤a) (h2:a<zb4 c i):zap c a=i:=by
 unfold zap
 rw [zk1 (m:=i+1) (by omega) fun j hj1 hj2=>by have:=h.mono (i:=i) (j:=j) (by omega) hj2;omega]
 rw [prc,if_pos h1]
theorem EntF.find {c:DCode} (h:EntF c) (hp:0<c.procs.length) {a:Int} (h0:0≤a) (h1:a<c.ins.length):∃ i,i<c.entry.length∧en c i≤a∧a<zb4 c i∧zap c a=i:=by
 have hlen:=h.len
 have h2:0≤zap c a:=zho (by rw [h.zero];exact h0) (by omega)
 have h3:=(zmY (c:=c) (a:=a)).2
 have key:∀ n,n≤c.entry.length→(∀ j,n≤j→j<c.entry.length→a<en c j)→0<n→∃ i,i<n∧en c i≤a∧a<zb4 c i:=by
   intro n
   induction n with
   | zero=>intro _ _ h;omega
   | succ n ih=>
     intro hn hj _
     by_cases hle:en c n≤a
     · refine ⟨n,by omega,hle,?_⟩
       by_cases hl:n+1<c.entry.length
       · rw [h.step hl];exact hj (n+1) (by omega) hl
       rw [h.last (by omega)];exact h1
     by_cases h0n:n=0
     · subst h0n;rw [h.zero] at hle;omega
     obtain ⟨i,hi,hx⟩:=ih (by omega) (fun j hj1 hj2=>by
       by_cases e:j=n
       · subst e;omega
       exact hj j (by omega) hj2) (by omega)
     exact ⟨i,by omega,hx⟩
 obtain ⟨i,hi,hx,hy⟩:=key c.entry.length (Nat.le_refl _) (fun j hj1 hj2=>by omega) (by omega)
 exact ⟨i,hi,hx,hy,h.proc hi hx hy⟩
theorem EntS.f {c:DCode} (h:EntS c) (hp:0<c.procs.length):EntF c:=by
 obtain ⟨h1,h2,h3,h4⟩:=h
 refine ⟨h1,h2,(h3 0 (by omega)).1 rfl,fun i hi=>?_⟩
 unfold zb4
 split
 · rename_i hl
   have:=h3 (i+1) hl
   have h5:=this.2.1 (by omega)
   simp only [Nat.add_sub_cancel] at h5
   exact ⟨h5,by omega⟩
 exact ⟨(h3 i hi).2.2,Int.le_refl _⟩
theorem EntI.f {c:DCode} (h:EntI c):EntF c:=⟨h.2.1,h.1,h.2.2.1,fun i hi=>⟨(h.2.2.2.2 i hi).1,(h.2.2.2.2 i hi).2.1⟩⟩
theorem zm0 (c:DCode) (a:Nat):∀ (d:Nat),zh2 c a≤zh2 c (a+d)∧(zh2 c (a+d)=zh2 c a↔∀ j,a≤j→j<a+d→¬(zah c j).op=9)
 | 0=>⟨Nat.le_refl _,⟨fun _ j h1 h2=>by omega,fun _=>rfl⟩⟩
 | d+1=>by
   obtain ⟨h1,h2⟩:=zm0 c a d
   rw [←Nat.add_assoc,zh2]
   refine ⟨by omega,?_⟩
   split
   · rename_i h9
     exact ⟨fun h=>by omega,fun h=>absurd h9 (h (a+d) (by omega) (by omega))⟩
   rename_i h9
   rw [Nat.add_zero,h2]
   constructor
   · intro h j hj1 hj2
     by_cases e:j=a+d
     · subst e;exact h9
     exact h j hj1 (by omega)
   exact fun h j hj1 hj2=>h j hj1 (by omega)
def eb (c:DCode) (n:Nat):Nat:=if n=0 then 0 else (zb4 c (n-1)).toNat
theorem EntF.eb_en {c:DCode} (h:EntF c) {n:Nat} (hn:n<c.entry.length):(eb c n:Int)=en c n:=by
 unfold eb
 split
 · rename_i h0;subst h0;rw [h.zero];rfl
 have h1:=h.nonneg hn
 have h2:zb4 c (n-1)=en c n:=by
   have:=h.step (i:=n-1) (by omega)
   rwa [show n-1+1=n by omega] at this
 rw [h2];omega
theorem EntF.eb_succ {c:DCode} (h:EntF c) {n:Nat} (hn:n<c.entry.length):(eb c (n+1):Int)=zb4 c n:=by
 unfold eb
 rw [if_neg (by omega),Nat.add_sub_cancel]
 have:=(h.lt n hn).1
 have:=h.nonneg hn
 omega
theorem zfs {c:DCode} (h:EntF c) (he:∀ i,i<c.entry.length→(zah c (zb4 c i-1).toNat).op=9):∀ n,n≤c.entry.length →
   n≤zh2 c (eb c n)∧(zh2 c (eb c n)=n↔∀ j:Nat,j<eb c n→(zah c j).op=9→∃ i,i<n∧zb4 c i=j+1)
 | 0,_=>⟨Nat.zero_le _,⟨fun _ j hj=>by simp [eb] at hj,fun _=>rfl⟩⟩
 | n+1,hn=>by
   obtain ⟨h1,h2⟩:=zfs h he n (by omega)
   have ha:=h.eb_en (n:=n) (by omega)
   have hb:=h.eb_succ (n:=n) (by omega)
   have hlt:=(h.lt n (by omega)).1
   have h9:=he n (by omega)
   have e9:(zb4 c n-1).toNat=eb c (n+1)-1:=by omega
   rw [e9] at h9
   obtain ⟨d,hd⟩:∃ d,eb c (n+1)=eb c n+d+1:=⟨eb c (n+1)-eb c n-1,by omega⟩
   have hd':eb c (n+1)-1=eb c n+d:=by omega
   rw [hd'] at h9
   obtain ⟨h3,h4⟩:=zm0 c (eb c n) d
   rw [hd,zh2,if_pos h9]
   refine ⟨by omega,?_⟩
   have hsplit:zh2 c (eb c n+d)+1=n+1↔(zh2 c (eb c n)=n∧zh2 c (eb c n+d)=zh2 c (eb c n)):=by omega
   rw [hsplit,h2,h4]
   constructor
   · rintro ⟨p1,p2⟩ j hj hj9
     by_cases hja:j<eb c n
     · obtain ⟨i,hi,hx⟩:=p1 j hja hj9
       exact ⟨i,by omega,hx⟩
     by_cases hje:j=eb c n+d
     · exact ⟨n,by omega,by omega⟩
     exact absurd hj9 (p2 j (by omega) (by omega))
   intro p
   constructor
   · intro j hj hj9
     obtain ⟨i,hi,hx⟩:=p j (by omega) hj9
     by_cases hin:i=n
     · subst hin;omega
     exact ⟨i,by omega,hx⟩
   intro j hj1 hj2 hj9
   obtain ⟨i,hi,hx⟩:=p j (by omega) hj9
   by_cases hin:i=n
   · subst hin;omega
   have:=h.mono (i:=i) (j:=n) (by omega) (by omega)
   omega
theorem zm1 {c:DCode} (hp:0<c.procs.length):EntI c↔EntS c:=by
 constructor
 · intro h
   have hf:=h.f
   obtain ⟨_,_,_,hc,hall⟩:=h
   have hlen:=hf.len
   have he:∀ i,i<c.entry.length→(zah c (zb4 c i-1).toNat).op=9:=fun i hi=>(hall i hi).2.2
   obtain ⟨_,h2⟩:=zfs hf he c.entry.length (Nat.le_refl _)
   have hb:eb c c.entry.length=c.ins.length:=by
     have:=hf.eb_succ (n:=c.entry.length-1) (by omega)
     rw [hf.last (by omega),show c.entry.length-1+1=c.entry.length by omega] at this
     omega
   rw [hb] at h2
   have h3:=h2.1 hc
   refine ⟨hf.len,hf.ins,fun i hi=>⟨fun _=>hf.zero,fun h0=>?_,?_⟩,fun j hj=>?_⟩
   · have h4:=(hf.lt (i-1) (by omega)).1
     have h5:=hf.step (i:=i-1) (by omega)
     rw [show i-1+1=i by omega] at h5
     omega
   · have:=hf.lt i hi;omega
   obtain ⟨i,hi,hx,hy,hpr⟩:=hf.find hp (a:=j) (by omega) (by omega)
   rw [hpr,zco]
   constructor
   · intro h9
     obtain ⟨i',hi',hx'⟩:=h3 j hj h9
     have:=hf.lt i' hi'
     have hpr':=hf.proc (a:=j) hi' (by omega) (by omega)
     have:i'=i:=by omega
     subst this
     omega
   intro h9
   have:=he i hi
   rwa [show (zb4 c i-1).toNat=j by omega] at this
 intro h
 have hf:=h.f hp
 have hlen:=hf.len
 have h4:=h.2.2.2
 have he:∀ i,i<c.entry.length→(zah c (zb4 c i-1).toNat).op=9:=fun i hi=>by
   have h1:=hf.lt i hi
   have h0:=hf.nonneg hi
   have:=(h4 (zb4 c i-1).toNat (by omega)).2
   refine this ?_
   rw [hf.proc (i:=i) hi (by omega) (by omega),zco]
   omega
 obtain ⟨_,h2⟩:=zfs hf he c.entry.length (Nat.le_refl _)
 have hb:eb c c.entry.length=c.ins.length:=by
   have:=hf.eb_succ (n:=c.entry.length-1) (by omega)
   rw [hf.last (by omega),show c.entry.length-1+1=c.entry.length by omega] at this
   omega
 rw [hb] at h2
 refine ⟨hf.ins,hf.len,hf.zero,h2.2 fun j hj h9=>?_,fun i hi=>⟨(hf.lt i hi).1,(hf.lt i hi).2,he i hi⟩⟩
 obtain ⟨i,hi,hx,hy,hpr⟩:=hf.find hp (a:=j) (by omega) (by omega)
 have:=(h4 j hj).1 h9
 rw [hpr,zco] at this
 exact ⟨i,hi,by omega⟩
theorem ziU {c:DCode} (hn:NamesR c) (he:EntI c):CodeR c↔∀ i,i<c.entry.length→∀ j:Nat,en c i≤j→(j:Int)<zb4 c i→zg6 c (zah c j) (en c i) (zb4 c i):=by
 have hf:=he.f
 have hp:=hn.procs8.2
 constructor
 · intro h i hi j h1 h2
   have h3:=hf.lt i hi
   have:=h.2.2 j (by omega)
   rw [hf.proc hi h1 h2,zco,Int.toNat_natCast] at this
   rwa [Int.sub_add_cancel] at this
 intro h
 refine ⟨hn,(zm1 hp).1 he,fun j hj=>?_⟩
 obtain ⟨i,hi,hx,hy,hpr⟩:=hf.find hp (a:=j) (by omega) (by omega)
 rw [hpr,zco,Int.toNat_natCast,Int.sub_add_cancel]
 exact h i hi j hx hy
def F52 (a0:Value) (w:World) (R:VW):Prop:=
 oP (Instr.box 36 a0) w fun x1 w=>
 rL 36 x1 w fun x8=>
 cL 117 [x8] w fun x9 w=>
 rD (Op.unary .not x9) w fun x10=>
 BR x10
 (R (Value.bool false) w)
 (rL 36 x1 w fun x12=>
 cL 118 [x12] w fun x13 w=>
 rD (Op.unary .not x13) w fun x14=>
 BR x14
 (R (Value.bool false) w)
 (rF 36 x1 3 w fun x16=>
 rL 33 x16 w fun x17=>
 rN 33 3 x17 w fun x18=>
 LOOPI [19] [(iV 0)] w fun u4 w next4=>
 rC (u4 19) x18 w fun x20=>
 BR x20
 (rX 33 x17 (u4 19) w fun x22=>
 rL 3 x22 w fun x23=>
 rL 36 x1 w fun x24=>
 cL 119 [x24,(u4 19)] w fun x26 w=>
 rF 36 x1 4 w fun x27=>
 rL 34 x27 w fun x28=>
 rD (Instr.sliceAt 34 x28 (some x23) (some x26) none) w fun x31=>
 rN 34 3 x31 w fun x32=>
 LOOPI [33] [(iV 0)] w fun u8 w next8=>
 rC (u8 33) x32 w fun x34=>
 BR x34
 (rX 34 x31 (u8 33) w fun x35=>
 rL 84 x35 w fun x36=>
 oP (Instr.alloc 84 true (.tuple #[])) w fun x7 w=>
 oS 84 x7 x36 w fun w=>
 rL 36 x1 w fun x37=>
 rL 84 x7 w fun x38=>
 cL 120 [x37,x38,x23,x26] w fun x41 w=>
 rD (Op.unary .not x41) w fun x42=>
 BR x42
 (R (Value.bool false) w)
 (rA (u8 33) (iV 1) w fun x43=>
 next8 [x43] w))
 (rA (u4 19) (iV 1) w fun x44=>
 next4 [x44] w))
 (R (Value.bool true) w)))
def cfg52:Cfg:=⟨extL,[],[(4,35184371564732,[19]),(8,17583596109956,[33])],[],[],[],[]⟩
theorem F52_call {a0:Value} {w:World} {R:VW} (h:F52 a0 w R):cL 52 [a0] w R:=co (g:=cfg52) Tryz.func52 (by kernel_rfl) (by kernel_rfl) (by kernel_rfl) h
theorem zh3 {w:World} {v0:Value} {W0:World} {c:DCode}  (h0:Is W0 v0 c) (e0:Ext W0 w)  :
   CALL Tryz.prog 52 [v0] w fun r w'=>Ext w w'∧(r=.bool (decide (CodeR c))):=by
 refine F52_call ?_
 unfold F52
 refine zbm zfm rfl h0 e0 fun w1_ hx1_ hA1 hV1=>?_
 refine zdF hV1 (Ext.refl w1_) ?_
 refine (zh1 h0 (e0.trans hx1_)).mono ?_
 rintro _ w2_ ⟨hx2_,rfl⟩
 refine zbw ?_
 refine br (fun c1=>?_) (fun c1=>?_)
 · refine ⟨(hx1_.trans hx2_),?_⟩
   have:¬CodeR c:=fun h=>c1 h.1
   simp only [this,decide_false]
 refine zdF hV1 hx2_ ?_
 refine (zgw h0 (e0.trans (hx1_.trans hx2_)) (Decidable.not_not.1 c1).procs8.2).mono ?_
 rintro _ w3_ ⟨hx3_,rfl⟩
 refine zbw ?_
 refine br (fun c2=>?_) (fun c2=>?_)
 · refine ⟨(hx1_.trans (hx2_.trans hx3_)),?_⟩
   have:¬CodeR c:=fun h=>c2 ((zm1 h.1.procs8.2).2 h.2.1)
   simp only [this,decide_false]
 refine zaa zbJ ?_
 refine zab zeL (zaD hA1) (hx2_.trans hx3_) fun v17 h17=>?_
 have hln18:=zan h17
 refine zaf u33 h17 ?_
 refine zaE (c.entry.length) (fun q us w'=>us=[.int .i64 (q:Int)]∧Ext w3_ w'∧(∀ i,i<q→∀ j:Nat,en c i≤j→(j:Int)<zb4 c i→zg6 c (zah c j) (en c i) (zb4 c i))) (0) (by omega) ⟨by simp,Ext.refl w3_,fun i h=>by omega⟩ ?_
 rintro q m4 uu4 w4_ hk4 ⟨hu,hx4_,hent⟩
 simp only [List.map_cons,List.map_nil,List.cons.injEq,and_true] at hu
 try rw [hu]
 try clear hu
 replace c1:=Decidable.not_not.1 c1;replace c2:=Decidable.not_not.1 c2;have hln4:=zan h17
 refine zal ?_
 refine br (fun c3=>?_) (fun c3=>?_)
 · refine zad u33 ty3 h17 (by omega) fun b22 o22 h22=>?_
   refine zac ty3 h22 (hx2_.trans (hx3_.trans hx4_)) fun hI23=>?_
   rw [zcH]
   have h8:=c1.procs8
   have hlq:=c2.f.lt q (by omega)
   have hnq:=c2.f.nonneg (i:=q) (by omega)
   have hlen:=c2.f.len
   refine zdF hV1 (hx2_.trans (hx3_.trans hx4_)) ?_
   refine (zca h0 (e0.trans (hx1_.trans (hx2_.trans (hx3_.trans hx4_)))) (by omega)).mono ?_
   rintro _ w5_ ⟨hx5_,rfl⟩
   refine zaa zaK ?_
   refine zab zdG (zat hA1) (hx2_.trans (hx3_.trans (hx4_.trans hx5_))) fun v28 h28=>?_
   refine zhY u34 zem h28 (by omega) (by omega) (by omega) fun v31 h31=>?_
   have hln32:=zan h31
   refine zaf u34 h31 ?_
   refine zaE ((zb4 c q).toNat-(en c q).toNat) (fun k us w'=>us=[.int .i64 (k:Int)]∧Ext w5_ w'∧(∀ j:Nat,en c q≤j→(j:Int)<en c q+k→zg6 c (zah c j) (en c q) (zb4 c q))) (0) (by omega) ⟨by simp,Ext.refl w5_,fun j h1 h2=>by omega⟩ ?_
   rintro k m8 uu8 w6_ hk8 ⟨hu,hx6_,hinv⟩
   simp only [List.map_cons,List.map_nil,List.cons.injEq,and_true] at hu
   try rw [hu]
   try clear hu
   have hl31:((c.ins.take (zb4 c q).toNat).drop (en c q).toNat).length=(zb4 c q).toNat-(en c q).toNat:=by rw [List.length_drop,List.length_take];omega
   refine zal ?_
   refine br (fun c4=>?_) (fun c4=>?_)
   · refine zad u34 zem h31 (by omega) fun b35 o35 h35=>?_
     refine zab zem h35 (hx2_.trans (hx3_.trans (hx4_.trans (hx5_.trans hx6_)))) fun v36 h36=>?_
     rw [List.getElem_drop,List.getElem_take,zaY] at h36
     refine zbB zqc rfl zem rfl h36 (hx2_.trans (hx3_.trans (hx4_.trans (hx5_.trans hx6_)))) fun w7_ hx7_ hA7 hV7=>?_
     refine zdF hV1 (hx2_.trans (hx3_.trans (hx4_.trans (hx5_.trans (hx6_.trans hx7_))))) ?_
     refine zdF hV7 (Ext.refl w7_) ?_
     refine (zj2 h0 (e0.trans (hx1_.trans (hx2_.trans (hx3_.trans (hx4_.trans (hx5_.trans (hx6_.trans hx7_))))))) h36 (hx2_.trans (hx3_.trans (hx4_.trans (hx5_.trans (hx6_.trans hx7_)))))).mono ?_
     rintro _ w8_ ⟨hx8_,rfl⟩
     refine zbw ?_
     refine br (fun c5=>?_) (fun c5=>?_)
     · refine ⟨(hx1_.trans (hx2_.trans (hx3_.trans (hx4_.trans (hx5_.trans (hx6_.trans (hx7_.trans hx8_))))))),?_⟩
       have:¬CodeR c:=fun h=>c5 ((ziU c1 c2).1 h q (by omega) _ (by omega) (by omega))
       simp only [this,decide_false]
     refine zag (by omega) ?_
     refine ⟨m8-1,by omega,k+1,by omega,by simp,(hx6_.trans (hx7_.trans hx8_)),?_⟩
     intro j h1 h2
     by_cases hj:j=(en c q).toNat+k
     · subst hj;exact Decidable.not_not.1 c5
     exact hinv j h1 (by omega)
   refine zag (by omega) ?_
   refine ⟨m4-1,by omega,q+1,by omega,by simp,(hx4_.trans (hx5_.trans hx6_)),?_⟩
   intro i hi j h1 h2
   by_cases hiq:i=q
   · subst hiq;exact hinv j h1 (by omega)
   exact hent i (by omega) j h1 h2
 refine ⟨(hx1_.trans (hx2_.trans (hx3_.trans hx4_))),?_⟩
 have:CodeR c:=(ziU c1 c2).2 fun i hi=>hent i (by omega)
 simp only [this,decide_true]
theorem CodeR.f {c:DCode} (h:CodeR c):EntF c:=h.2.1.f h.1.procs8.2
def F145 (a0 a1:Value) (w:World) (R:VW):Prop:=
 oP (Instr.box 36 a0) w fun x2 w=>
 rB .geq 3 T0 U0 a1 (iV 0) w fun x6=>
 BR x6
 (rF 36 x2 4 w fun x9=>
 rL 34 x9 w fun x10=>
 rN 34 3 x10 w fun x11=>
 rC a1 x11 w fun x12=>
 R x12 w)
 (R (Value.bool false) w)
def cfg145:Cfg:=⟨extL,[],[],[],[],[],[]⟩
theorem F145_call {a0 a1:Value} {w:World} {R:VW} (h:F145 a0 a1 w R):cL 145 [a0,a1] w R:=co (g:=cfg145) Tryz.func145 (by kernel_rfl) (by kernel_rfl) (by kernel_rfl) h
theorem zlS {w:World} {v0:Value} {W0:World} {c:DCode} {a:Int}  (h0:Is W0 v0 c) (e0:Ext W0 w)  :
   CALL Tryz.prog 145 [v0,.int .i64 a] w fun r w'=>Ext w w'∧(r=.bool (decide (0≤a∧a<c.ins.length))):=by
 refine F145_call ?_
 unfold F145
 refine zbm zfm rfl h0 e0 fun w1_ hx1_ hA2 hV2=>?_
 refine zdD ?_
 refine br (fun c1=>?_) (fun c1=>?_)
 · refine zaa zaK ?_
   refine zab zdG (zat hA2) (Ext.refl w1_) fun v10 h10=>?_
   have hln11:=zan h10
   refine zaf u34 h10 ?_
   refine zal ?_
   refine ⟨hx1_,?_⟩
   simp [c1]
 refine ⟨hx1_,?_⟩
 simp [c1]
def F114 (a0 a1:Value) (w:World) (R:VW):Prop:=
 oP (Instr.box 36 a0) w fun x2 w=>
 LOOPI [5] [(iV 0)] w fun u2 w next2=>
 rA (u2 5) (iV 1) w fun x7=>
 rF 36 x2 3 w fun x8=>
 rL 33 x8 w fun x9=>
 rN 33 3 x9 w fun x10=>
 rC x7 x10 w fun x11=>
 BR x11
 (rF 36 x2 3 w fun x13=>
 rL 33 x13 w fun x14=>
 rA (u2 5) (iV 1) w fun x16=>
 rX 33 x14 x16 w fun x17=>
 rL 3 x17 w fun x18=>
 rB .leq 3 T0 T0 x18 a1 w fun x20=>
 BR x20
 (rA (u2 5) (iV 1) w fun x23=>
 next2 [x23] w)
 (R (u2 5) w))
 (R (u2 5) w)
def cfg114:Cfg:=⟨extL,[],[(2,16777184,[5])],[],[],[],[]⟩
theorem F114_call {a0 a1:Value} {w:World} {R:VW} (h:F114 a0 a1 w R):cL 114 [a0,a1] w R:=co (g:=cfg114) Tryz.func114 (by kernel_rfl) (by kernel_rfl) (by kernel_rfl) h
theorem ziV {w:World} {v0:Value} {W0:World} {c:DCode} {a:Int}  (h0:Is W0 v0 c) (e0:Ext W0 w) (hc:CodeR c) (ha:0≤a) (ha2:a<c.ins.length) :
   CALL Tryz.prog 114 [v0,.int .i64 a] w fun r w'=>Ext w w'∧(r=.int .i64 (zap c a)):=by
 refine F114_call ?_
 unfold F114
 have hf:=hc.f
 have h8:=hc.1.procs8
 have hl:=hf.len
 refine zbm zfm rfl h0 e0 fun w1_ hx1_ hA2 hV2=>?_
 refine zaE (c.entry.length-1) (fun k us w'=>us=[.int .i64 (k:Int)]∧Ext w1_ w'∧(en c k≤a)) (0) (by omega) ⟨by simp,Ext.refl w1_,by rw [hf.zero];exact ha⟩ ?_
 rintro k m2 uu2 w2_ hk2 ⟨hu,hx2_,hinv⟩
 simp only [List.map_cons,List.map_nil,List.cons.injEq,and_true] at hu
 try rw [hu]
 try clear hu
 refine zag (by omega) ?_
 refine zaa zbJ ?_
 refine zab zeL (zaD hA2) hx2_ fun v9 h9=>?_
 have hln10:=zan h9
 refine zaf u33 h9 ?_
 refine zal ?_
 refine br (fun c1=>?_) (fun c1=>?_)
 · refine zaa zbJ ?_
   refine zab zeL (zaD hA2) hx2_ fun v14 h14=>?_
   refine zag (by omega) ?_
   refine zad u33 ty3 h14 (by omega) fun b17 o17 h17=>?_
   refine zac ty3 h17 hx2_ fun hI18=>?_
   refine zeU ?_
   refine br (fun c2=>?_) (fun c2=>?_)
   · refine zag (by omega) ?_
     refine ⟨m2-1,by omega,k+1,by omega,by simp,hx2_,?_⟩
     rwa [zcH] at c2
   refine ⟨(hx1_.trans hx2_),?_⟩
   rw [zcH] at c2
   rw [hf.proc (i:=k) (by omega) hinv (by rw [hf.step (by omega)];omega)]
 refine ⟨(hx1_.trans hx2_),?_⟩
 rw [hf.proc (i:=k) (by omega) hinv (by rw [hf.last (by omega)];omega)]
def st (l:List Int) (i:Nat):Int:=l.getD i 0
def zm2 (c:DCode) (l:List Int):Prop:=l.length≤8∧(∀ i,i<l.length→0≤st l i∧st l i<c.ins.length) ∧
 ∀ i,i<l.length-1→(zah c (st l i).toNat).op=4∧zap c (st l (i+1))=(zah c (st l i).toNat).arg
instance (c:DCode) (l:List Int):Decidable (zm2 c l):=by unfold zm2;infer_instance
def zk2 (c:DCode) (s:DState):Prop:=s.vars.length=c.globals.length∧s.owner.length=c.locks.length∧(1≤s.stacks.length∧s.stacks.length≤6)∧(∀ v∈s.vars,0≤v∧v≤999) ∧
 (∀ o∈s.owner,-1≤o∧o<s.stacks.length)∧∀ l∈s.stacks,zm2 c l
instance (c:DCode) (s:DState):Decidable (zk2 c s):=by unfold zk2;infer_instance
end Go.Proofs.YtcnglfeoglgebaaGreat
namespace Go.Sh
open Go.RowKit (Below)
open Rep (rep)
section
variable {P:Program} {w w0 w':World} {α β γ:Type} [Rep α] [Rep β]
theorem zoI {t e:TypeId} {by_:Nat} {F:List Nat} {v:Value} {l:List α} {k:Nat} {K:Value→Prop} (ht:P.underlying t=some (.slice e)) (he:tyI P e=some (Rep.size α,by_,Rep.agg α)) (hm:Mine F w v l) (hk:k<l.length)
   (kk:∀ b o G,Lens (MH v) F w b o G l[k] (fun y=>l.set k y)→K (.pointer (some ⟨b,o,none⟩))):RD P (Instr.indexAt t v (.int .i64 (k:Int))) w K:=by
 obtain ⟨b,a,cap,G,hv,hL⟩:=zrj hm hk
 refine zaF (v:=.pointer (some ⟨b,a+k*Rep.size α,none⟩)) (fun w' _=>?_) (kk _ _ _ hL)
 rw [hv,zb7 ht he (by omega) (by omega)];simp
theorem zas {ft by_ g e o:Nat} {cs:List Value} {v:Value} {K:Value→Prop} (hft:tyI P ft=some (1,by_,false)) (hB:Blk g e w cs) (ho:cs[o]?=some v) (k:K v) :
   RD P (Instr.loadAt ft (.pointer (some ⟨g,o,none⟩))) w K:=by
 refine zaF (fun w' hx'=>?_) k
 have h0:w'.cell? ⟨g,o,none⟩=some v:=by simpa using (za8 hB.range hx') o v ho
 have hA:=zbD hft w'
 simp [Instr.loadAt,Instr.sureAddr,loadVar,hA,h0]
theorem zm3 {t:TypeId} {cs:Array Value} {K:Value→World→Prop} (k:∀ w',Ext w w'→Blk w.heap.size t w' cs.toList→K (.pointer (some ⟨w.heap.size,0,none⟩)) w'):OP P (Instr.box t (.agg cs)) w K:=
 ⟨_,w.alloc (.cells cs t),by simp [Instr.box,newVar,newRow,Value.cells],k _ (zaw w _) (by unfold Blk;rw [heap_alloc_new w _])⟩
theorem ziW {t by_ b o:Nat} {F G:List Nat} {v:Value} {y y':β} {upd:β→α} {u:Value} {K:World→Prop} (ht:tyI P t=some (Rep.size β,by_,Rep.agg β)) (h:Lens (MH v) F w b o G y upd)
   (hu:Mine [] w u y') (k:∀ w' F',Chg F w w'→Mine F' w' v (upd y')→(∀ c∈F',c∈F)→K w'):OPU P (Instr.storeAt t (.pointer (some ⟨b,o,none⟩)) u) w K:=
 zhV ht h hu (by simp) fun w' hc ⟨F',h1,h2⟩=>k w' F' hc h1 fun c hc=>by
   rcases h2 c hc with h | h
   · exact h
   simp at h
theorem zcR {x:Int} (h:I64 x):Mine [] w (.int .i64 x) x:=⟨⟨_,⟨rfl,rfl,h⟩,rfl⟩,List.nodup_nil,Wr.nil w⟩
theorem Chg.sub {F G:List Nat} {a b c:World} (h:Chg F a b) (k:Chg G b c) (hs:∀ x∈G,x∈F):Chg F a c:=h.trans (k.mono hs)
theorem zrn {ts:Array TypeId} {ty:TypeId} {a b:Int} {K:Value→Prop} (k:K (.int .i64 (max a b))):RD P (Builtin.max_ ts ty [Value.int .i64 a,Value.int .i64 b].toArray) w K:=by
 refine zaF (fun w' _=>?_) k
 have:(if b>a then b else a)=max a b:=by split<;>omega
 simp only [Builtin.max_,List.toList_toArray,List.foldlM_cons,List.foldlM_nil,Builtin.max2,this]
 rfl
theorem zro {ts:Array TypeId} {ty:TypeId} {a b:Int} {K:Value→Prop} (k:K (.int .i64 (min a b))):RD P (Builtin.min_ ts ty [Value.int .i64 a,Value.int .i64 b].toArray) w K:=by
 refine zaF (fun w' _=>?_) k
 have:(if b<a then b else a)=min a b:=by split<;>omega
 simp only [Builtin.min_,List.toList_toArray,List.foldlM_cons,List.foldlM_nil,Builtin.min2,this]
 rfl
theorem zrp {t e ft i off by_ by2:Nat} {F:List Nat} {v u:Value} {l:List α} {k:Nat} {y':β} {sel:α→β} {g:α→β→α} {K:World→Prop} (ht:P.underlying t=some (.slice e)) (he:tyI P e=some (Rep.size α,by_,Rep.agg α)) (hf:zcE P e i=some off) (hft:tyI P ft=some (Rep.size β,by2,Rep.agg β))
   (L:∀ {a:α} {G:List Nat} {b o:Nat} {upd:α→List α},Lens (MH v) F w b o G a upd→∃ G1,Lens (MH v) F w b (o+off) G1 (sel a) (fun y=>upd (g a y))) (hm:Mine F w v l) (hk:k<l.length) (hu:Mine [] w u y')
   (kk:∀ w' F',Chg F w w'→Mine F' w' v (l.set k (g l[k] y'))→(∀ c∈F',c∈F)→K w') :
   RD P (Instr.indexAt t v (.int .i64 (k:Int))) w fun p=>RD P (Instr.fieldAt e p i) w fun q=>OPU P (Instr.storeAt ft q u) w K:=by
 refine zoI ht he hm hk fun b o G hL=>?_
 refine zaa hf ?_
 obtain ⟨G1,hL1⟩:=L hL
 exact ziW (upd:=fun y=>l.set k (g l[k] y)) hft hL1 hu kk
end
end Go.Sh
namespace Go.Proofs.YtcnglfeoglgebaaGreat
open Go Go.Sh Go.Proofs
open Rep (rep)
def zpD (s:DState):Prop:=∀ x∈s.stacks,x=[]
instance (s:DState):Decidable (zpD s):=inferInstanceAs (Decidable (∀ x∈s.stacks,x=[]))
def ow (s:DState) (i:Int):Int:=s.owner.getD i.toNat 0
def stk (s:DState) (t:Int):List Int:=s.stacks.getD t.toNat []
def atI (c:DCode) (s:DState) (t:Int):DIns:=zah c (zrl s t).toNat
theorem zgx {c:DCode} (hc:CodeR c) {j:Nat} (hj:j<c.ins.length):zg6 c (zah c j) (en c (zap c j).toNat) (zj1 c (zap c j)+1):=hc.2.2 j hj
theorem zoJ {c:DCode} (hc:CodeR c) {j:Nat} (hj:j<c.ins.length) (h:(zah c j).op=6∨(zah c j).op=7):0≤(zah c j).arg∧(zah c j).arg<c.locks.length:=by
 have:=(zgx hc hj).2.1
 unfold zbX at this
 rwa [if_neg (by omega),if_neg (by omega),if_pos h] at this
theorem NamesR.locks6 {c:DCode} (h:NamesR c):c.locks.length≤6:=by
 have h1:=h.2.1
 simp only [Bool.and_eq_true,decide_eq_true_eq] at h1
 omega
def GoR (c:DCode) (s:DState) (t:Int):Prop:=0≤zrl s t∧((atI c s t).op=6→ow s (atI c s t).arg=-1)∧((atI c s t).op=4→((stk s t).length:Int)<8)
instance (c:DCode) (s:DState) (t:Int):Decidable (GoR c s t):=by unfold GoR;infer_instance
def zft (c:DCode) (s:DState) (t:Int):Int:=if 0≤zrl s t∧(atI c s t).op=6∧0≤ow s (atI c s t).arg then (atI c s t).arg else -1
def zj3 (c:DCode) (s:DState):Nat→List Int
 | 0=>[]
 | k+1=>if GoR c s k then zj3 c s k++[(k:Int)] else zj3 c s k
def zrq (c:DCode) (s:DState):List Int:=zj3 c s s.stacks.length
def ziX (c:DCode) (s:DState):Prop:=(CodeR c∧zk2 c s)∧¬zpD s∧zrq c s=[]
instance (c:DCode) (s:DState):Decidable (ziX c s):=by unfold ziX;infer_instance
end Go.Proofs.YtcnglfeoglgebaaGreat
namespace Go.Sh
open Rep (rep)
section
variable {P:Program} {w w0:World} {α:Type} [Rep α]
theorem ziY [RepZ α] {z:Value} (hz:RepZ.zc α=[z]) (w:World):∀ n,Cells [] w (List.replicate n z) (List.replicate n (RepZ.zv:α))
 | 0=>⟨rfl,rfl⟩
 | n+1=>⟨[],[],[z],List.replicate n z,rfl,rfl,hz▸RepZ.zr w,ziY hz w n⟩
theorem zoK (z:Value) (n:Nat):(madeCells #[z] n).toList=List.replicate n z:=by
 apply List.ext_getElem
 · simp [madeCells]
 intro i h1 h2
 simp [madeCells,Nat.mod_one]
theorem zk3 [RepZ α] {t e:TypeId} {by_:Nat} {z:Value} {K:Value→World→Prop} {n:Nat} (ht:P.underlying t=some (.slice e)) (he:tyI P e=some (Rep.size α,by_,Rep.agg α)) (h1:Rep.size α=1) (hzc:RepZ.zc α=[z]) (hz:zbt P e=some [z])
   (hb:by_*n≤281474976710656) (hm:n≤9223372036854775807)
   (k:∀ w',Ext w w'→RowI w.heap.size w'.heap.size e w' (.slice (some ⟨w.heap.size,0,none⟩) n n) (List.replicate n (RepZ.zv:α))→K (.slice (some ⟨w.heap.size,0,none⟩) n n) w') :
   OP P (Instr.makeSlice t (.int .i64 (n:Int)) (.int .i64 (n:Int))) w K:=by
 obtain ⟨i,d,hi,hd,hs,hby,hg⟩:=zbj he
 unfold zbt at hz
 rw [hi] at hz
 obtain ⟨zz,hzz,hcz⟩:=Option.map_eq_some_iff.1 hz
 have hb':(i.bytes:Int)*(n:Int)≤281474976710656:=by
   have h:((i.bytes*n:Nat):Int)≤281474976710656:=by rw [hby];omega
   rwa [Int.natCast_mul] at h
 have hr:=run_make (P:=P) w t e i zz ht hi hzz .i64 .i64 n n (by omega) (Int.le_refl _) hb' (by omega)
 simp only [Int.toNat_natCast] at hr
 have hcells:zz.cells=#[z]:=by apply Array.ext';simpa using hcz
 have hlen:n*i.size=n:=by rw [hs,h1,Nat.mul_one]
 rw [hcells,hlen] at hr
 refine ⟨_,_,hr,k _ (zaw w _) (.inr ⟨[w.heap.size],⟨List.replicate n z,[],⟨?_,.inr ⟨w.heap.size,n,madeCells #[z] n,?_,Nat.zero_le _,heap_alloc_new w _,by simp,by rw [zak];omega,?_,?_⟩⟩,ziY hzc _ n,rfl,Wr.nil _⟩,by simp,?_⟩)⟩
 · simp [h1]
 · simp
 · rw [h1];simp [madeCells]
 · rw [zoK,List.length_replicate,h1,Nat.mul_one,List.take_of_length_le (by simp)]
 intro b hb
 simp only [List.mem_cons,List.not_mem_nil,or_false] at hb
 subst hb
 exact ⟨Nat.le_refl _,(Array.getElem?_eq_some_iff.1 (heap_alloc_new w _)).1⟩
theorem zaz {K:Value→Prop} {t:TypeId} {parts:Array (Nat×Value)} {cells:Array Value} (h:P.built t parts.toList=some cells) (k:K (.agg cells)):RD P (Instr.build t parts) w K:=
 zaF (fun w' _=>run_build w' t parts cells h) k
theorem zeD {t by_ g e:Nat} {cs:List Value} {K:Value→Prop} (hB:Blk g e w cs) (ht:tyI P t=some (cs.length,by_,true)) (k:K (.agg cs.toArray)):RD P (Instr.loadAt t (.pointer (some ⟨g,0,none⟩))) w K:=
 zdF ⟨e,cs,by_,hB,rfl,ht⟩ (Ext.refl w) k
theorem zm4 {t by_ g e:Nat} {cs:List Value} {K:Value→Prop} (hB:Blk g e w cs) (ht:tyI P t=some (cs.length,by_,true)) (k:K (.agg cs.toArray)):RD P (zbG t (.pointer (some ⟨g,0,none⟩))) w K:=by
 obtain ⟨i,d,hi,hd,hs,_,hg⟩:=zbj ht
 refine zaF (fun w' hx'=>?_) k
 have:=run_loadAt_mid w' g 0 t cs d (hB.ext hx').range hd hg (by simp [hi,hs])
 simpa [zbG,asAddr,Instr.loadAt,Instr.sureAddr] using this
theorem ze0 {t by_ g e:Nat} {cs:List Value} {us:Array Value} {lo hi:Nat} {x:α} {K:World→Prop} (ht:tyI P t=some (Rep.size α,by_,true)) (ha:Rep.agg α=true) (hB:Blk g e w cs) (hl:cs.length=Rep.size α) (hu:OwnI lo hi w (.agg us) x)
   (k:∀ w',ChgI g (g+1) w w'→Blk g e w' us.toList→K w'):OPU P (Instr.storeAt t (.pointer (some ⟨g,0,none⟩)) (.agg us)) w K:=by
 obtain ⟨F,⟨⟨cs',hr,hv⟩,_⟩,_⟩:=hu
 have hus:us.toList=cs':=by
   simp only [mkv,ha,cond_true,Value.agg.injEq] at hv
   rw [hv]
 have hl':=Rep.len hr
 rw [hv]
 refine zmD (by rw [ha];exact ht) hB hr rfl (by omega) fun w' hc hB'=>k w' (hc.toI (by simp)) ?_
 rw [hus]
 rw [List.take_zero,List.nil_append,Nat.zero_add,List.drop_of_length_le (by omega),List.append_nil] at hB'
 exact hB'
theorem zcp {t by_ g e o:Nat} {cs:List Value} {u:Value} {lo hi:Nat} {x:α} {K:World→Prop} (ht:tyI P t=some (1,by_,false)) (h1:Rep.size α=1) (ha:Rep.agg α=false) (hB:Blk g e w cs) (ho:o<cs.length) (hu:OwnI lo hi w u x)
   (k:∀ w',ChgI g (g+1) w w'→Blk g e w' (cs.set o u)→K w'):OPU P (Instr.storeAt t (.pointer (some ⟨g,o,none⟩)) u) w K:=by
 obtain ⟨F,⟨⟨cs',hr,hv⟩,_⟩,_⟩:=hu
 have hl':=Rep.len hr
 rw [h1] at hl'
 obtain ⟨c,rfl⟩:=List.length_eq_one_iff.1 hl'
 have huc:u=c:=by simpa [mkv,ha] using hv
 subst huc
 refine zmD (by rw [h1,ha];exact ht) hB hr hv (by omega) fun w' hc hB'=>k w' (hc.toI (by simp)) ?_
 have:cs.set o u=cs.take o++[u]++cs.drop (o+1):=by
   rw [List.set_eq_take_append_cons_drop,if_pos ho];simp
 rw [this];exact hB'
theorem Blk.chgI {g e a b:Nat} {w':World} {cs:List Value} (h:Blk g e w cs) (hc:ChgI a b w w') (hd:g<a∨b≤g):Blk g e w' cs:=h.keep (hc.block g h.lt hd)
end
end Go.Sh
namespace Go.Sh
open Rep (rep)
def RowG {α:Type} [Rep α] (F:List Nat) (e:TypeId) (w:World) (v:Value) (l:List α):Prop:=(∃ a,v=.slice a 0 0∧l=[]∧F=[])∨RowF F e w v l
section
variable {P:Program} {w w0 w':World} {α β γ:Type} [Rep α] [Rep β] {e lo hi:Nat} {v:Value} {l:List α} {F:List Nat}
theorem RowG.lt (h:RowG F e w v l):∀ b∈F,b<w.heap.size:=by
 rcases h with ⟨a,_,_,rfl⟩ | h
 · simp
 exact h.lt
theorem RowG.keep (h:RowG F e w v l) (hk:∀ b∈F,w'.heap[b]?=w.heap[b]?):RowG F e w' v l:=by
 rcases h with h | h
 · exact .inl h
 exact .inr (h.keep hk)
theorem RowG.own (h:RowG F e w v l):OwnF F w v l:=by
 rcases h with ⟨a,rfl,rfl,rfl⟩ | h
 · exact ⟨_,⟨a,0,[],[],rfl,Nat.le_refl _,Nat.zero_le _,⟨rfl,rfl⟩,.inl ⟨rfl,rfl⟩⟩,rfl⟩
 exact h.own
theorem RowG.wr (h:RowG F e w v l):Wr F w:=by
 rcases h with ⟨a,_,_,rfl⟩ | h
 · exact Wr.nil w
 exact h.wr
theorem RowG.one (h:RowG F e w v l):v.oneCell'=true:=by
 obtain ⟨cs,⟨a,cap,Fi,xs,rfl,_⟩,rfl⟩:=h.own
 rfl
theorem zdu:RowI lo hi e w v l↔∃ F,RowG F e w v l∧F.Nodup∧∀ b∈F,lo≤b∧b<hi:=by
 constructor
 · rintro (⟨a,h1,h2⟩ | ⟨F,h1,h2,h3⟩)
   · exact ⟨[],.inl ⟨a,h1,h2,rfl⟩,List.nodup_nil,by simp⟩
   exact ⟨F,.inr h1,h2,h3⟩
 rintro ⟨F,(⟨a,h1,h2,_⟩ | h1),h2',h3⟩
 · exact .inl ⟨a,h1,h2⟩
 exact .inr ⟨F,h1,h2',h3⟩
end
structure RV (α:Type) (e:TypeId) where
 v:Value
 l:List α
instance {α:Type} [Rep α] {e:TypeId}:Rep (RV α e) where
 size:=1
 agg:=false
 rep F w cs x:=cs=[x.v]∧RowG F e w x.v x.l
 pos:=by decide
 sz _:=rfl
 len:=by rintro _ _ _ _ ⟨rfl,_⟩;rfl
 one:=by rintro _ _ _ _ ⟨rfl,h⟩ v hv;simp at hv;subst hv;exact h.one
 keep:=by rintro _ _ _ _ _ ⟨rfl,h⟩ hk;exact ⟨rfl,h.keep hk⟩
 lt:=by rintro _ _ _ _ ⟨rfl,h⟩;exact h.lt
section
variable {P:Program} {w w0 w':World} {α β γ:Type} [Rep α] [Rep β] {e lo hi:Nat} {v:Value} {l:List α} {F:List Nat}
theorem zrr {k:Nat} (hm:RowG F e w v l) (hn:F.Nodup) (hk:k<l.length) :
   ∃ b a cap G,v=.slice (some ⟨b,a,none⟩) l.length cap∧Lens (fun F w l=>RowG F e w v l∧F.Nodup) F w b (a+k*Rep.size α) G l[k] (fun y=>l.set k y):=by
 rcases hm with ⟨a,_,rfl,_⟩ | hm
 · simp at hk
 have hwF:=hm.wr
 obtain ⟨xs,Fi,ho,hc,rfl,hwi⟩:=hm
 rcases ho.2 with ⟨_,h0⟩ | ⟨g,cap,cur,rfl,hb0,hg,h1,h2,h3,h4⟩
 · omega
 simp only [Value.ownBlock,Option.toList_some,List.cons_append,List.nil_append] at hn hwF ⊢
 have hlx:=ho.1
 have e0:l=l.take k++(l[k] :: l.drop (k+1)):=by simp
 have hc':=hc
 rw [e0] at hc'
 obtain ⟨F1,F2',x1,x2',hFi,hxs,c1,c2'⟩:=Cells.split hc'
 obtain ⟨G,F2,cg,x2,rfl,rfl,hgr,c2⟩:=c2'
 subst hFi hxs
 have hl1:x1.length=k*Rep.size α:=by rw [Cells.len c1,List.length_take];congr 1;omega
 have hlg:=Rep.len hgr
 have hn':=hn
 rw [List.nodup_cons] at hn
 obtain ⟨hbn,hn⟩:=hn
 rw [List.nodup_append] at hn
 obtain ⟨hn1,hn2,hn3⟩:=hn
 rw [List.nodup_append] at hn2
 obtain ⟨hnG,hnF2,hn4⟩:=hn2
 have hrange:w.rangeAt g 0 (x1++(cg++x2)):=by
   intro j u hu
   rw [←h4,List.getElem?_take] at hu
   split at hu
   · simpa [World.cell?,hg] using hu
   cases hu
 obtain ⟨r1,r2⟩:=zaq hrange
 obtain ⟨rg,r3⟩:=zaq r2
 rw [hl1] at rg r3
 refine ⟨g,0,cap,G,rfl,⟨cg,hgr,rg,hnG,hwi.sub (by simp +contextual),fun h=>hbn (by simp [h]),cur,e,hg⟩,by simp +contextual,fun w' G' y' hch hO hs=>?_⟩
 obtain ⟨cg',hg',rg',hnG',hwG',hbG',hwb'⟩:=hO
 have hlg':=Rep.len hg'
 obtain ⟨cur',hcur',hsame⟩:=hch.cell cur e hg
 have keep1:∀ c∈F1,w'.heap[c]?=w.heap[c]?:=fun c hc1=>by
   refine hch.chg.block c (Cells.lt c1 c hc1) fun hm=>?_
   rcases List.mem_cons.1 hm with rfl | hm
   · exact hbn (by simp [hc1])
   exact hn3 c hc1 c (by simp [hm]) rfl
 have keep2:∀ c∈F2,w'.heap[c]?=w.heap[c]?:=fun c hc1=>by
   refine hch.chg.block c (Cells.lt c2 c hc1) fun hm=>?_
   rcases List.mem_cons.1 hm with rfl | hm
   · exact hbn (by simp [hc1])
   exact hn4 c hm c hc1 rfl
 have hfit:k*Rep.size α+Rep.size α≤cur.size:=by
   rw [h3]
   have:=Nat.mul_le_mul_right (Rep.size α) (show k+1≤cap by omega)
   rw [Nat.add_mul,Nat.one_mul] at this
   exact this
 have hcell':∀ j,j<cg'.length→cur'[0+k*Rep.size α+j]?=cg'[j]?:=by
   intro j hj
   have:=rg' j cg'[j] (by simp [hj])
   simpa [World.cell?,hcur',hj] using this
 have hpos:=Rep.pos (α:=α)
 have hsz':cur'.size=cur.size:=by
   rcases Nat.lt_trichotomy cur'.size cur.size with h | h | h
   · exfalso
     rcases Nat.lt_or_ge cur'.size (k*Rep.size α+Rep.size α) with h' | h'
     · have:=hcell' (Rep.size α-1) (by omega)
       rw [List.getElem?_eq_getElem (by omega)] at this
       have:=(Array.getElem?_eq_some_iff.1 this).1
       omega
     have:=hsame cur'.size (.inr (by omega))
     rw [Array.getElem?_eq_none (Nat.le_refl _),Array.getElem?_eq_getElem h] at this
     cases this
   · exact h
   exfalso
   have:=hsame cur.size (.inr (by omega))
   rw [Array.getElem?_eq_none (Nat.le_refl _),Array.getElem?_eq_getElem h] at this
   cases this
 have hlset:(l.set k y').length=l.length:=by simp
 refine ⟨g :: (F1++(G'++F2)),⟨.inr ⟨x1++(cg'++x2),F1++(G'++F2),⟨?_,.inr ⟨g,cap,cur',by rw [hlset],hb0,hcur',by rw [hlset];exact h1,h2,by rw [hsz'];exact h3,?_⟩⟩,?_,rfl,?_⟩,ziL hn' hnG' hs⟩,?_⟩
 · rw [hlset]
   simp only [List.length_append] at hlx ⊢
   omega
 · rw [hlset]
   apply List.ext_getElem?
   intro j
   have hjx:(cur.toList.take (l.length*Rep.size α))[j]?=(x1++(cg++x2))[j]?:=by rw [h4]
   rcases Nat.lt_or_ge j (l.length*Rep.size α) with hj | hj
   · rw [List.getElem?_take,if_pos hj] at hjx ⊢
     rcases Nat.lt_or_ge j (k*Rep.size α) with h' | h'
     · rw [Array.getElem?_toList,hsame j (.inl (by omega)),←Array.getElem?_toList,hjx,List.getElem?_append_left (by omega),List.getElem?_append_left (by omega)]
     rcases Nat.lt_or_ge j (k*Rep.size α+Rep.size α) with h'' | h''
     · rw [Array.getElem?_toList,List.getElem?_append_right (by omega),List.getElem?_append_left (by omega),hl1,←hcell' (j-k*Rep.size α) (by omega)]
       congr 1
       omega
     rw [Array.getElem?_toList,hsame j (.inr (by omega)),←Array.getElem?_toList,hjx,List.getElem?_append_right (by omega),List.getElem?_append_right (by omega),List.getElem?_append_right (by omega),List.getElem?_append_right (by omega),hlg,hlg']
   rw [List.getElem?_take,if_neg (by omega),List.getElem?_eq_none]
   simp only [List.length_append] at hlx ⊢
   omega
 · have:l.set k y'=l.take k++(y' :: l.drop (k+1)):=by rw [List.set_eq_take_append_cons_drop];simp [hk]
   rw [this]
   exact Cells.append (Cells.keep c1 keep1) ⟨G',F2,cg',x2,rfl,rfl,hg',Cells.keep c2 keep2⟩
 · exact ((hwi.sub (by simp +contextual)).keep keep1).append (hwG'.append ((hwi.sub (by simp +contextual)).keep keep2))
 intro c hcm
 rcases List.mem_cons.1 hcm with rfl | hcm
 · exact .inl (by simp)
 rcases List.mem_append.1 hcm with hcm | hcm
 · exact .inl (by simp [hcm])
 rcases List.mem_append.1 hcm with hcm | hcm
 · exact .inr hcm
 exact .inl (by simp [hcm])
theorem Lens.elemV {H:List Nat→World→γ→Prop} {S:List Nat} {b o:Nat} {G:List Nat} {x:RV β e} {upd:RV β e→γ} (h:Lens H S w b o G x upd) {k:Nat} (hk:k<x.l.length) :
   ∃ b2 a cap G2,x.v=.slice (some ⟨b2,a,none⟩) x.l.length cap∧(∀ c∈b2 :: G2,c∈G)∧Lens H S w b2 (a+k*Rep.size β) G2 x.l[k] (fun y=>upd ⟨x.v,x.l.set k y⟩):=by
 obtain ⟨⟨cs,⟨rfl,hrow⟩,hr,hn,hw,hb,hwb⟩,hsub,hback⟩:=h
 obtain ⟨b2,a,cap,G2,hu,hL⟩:=zrr hrow hn hk
 have hG:∀ c∈G,c∈S:=fun c hc=>hsub c (by simp [hc])
 refine ⟨b2,a,cap,G2,hu,hL.sub,hL.here,fun c hc=>hG c (hL.sub c hc),fun w' G' y' hch hO hs=>?_⟩
 obtain ⟨F1,⟨hR1,hN1⟩,hF1⟩:=hL.back w' G' y' hch hO fun c hc=>by
   rcases hs c hc with h | h
   · exact .inl h
   exact .inr fun e=>h (hG c e)
 have hchG:Chg G w w':=hch.chg.mono hL.sub
 have hbl:b<w.heap.size:=by obtain ⟨c,e,h⟩:=hwb;exact (Array.getElem?_eq_some_iff.1 h).1
 have hbk:w'.heap[b]?=w.heap[b]?:=hchG.block b hbl hb
 have hs1:∀ c∈F1,c∈G∨c∉S:=fun c hc=>by
   rcases hF1 c hc with h | h
   · exact .inl h
   rcases hs c h with h | h
   · exact .inl (hL.sub c (by simp [h]))
   exact .inr h
 have hbF1:b∉F1:=fun hm=>by
   rcases hs1 b hm with h | h
   · exact hb h
   exact h (hsub b (by simp))
 obtain ⟨F',hM',hF'⟩:=hback w' F1 ⟨x.v,x.l.set k y'⟩ ⟨hchG.mono (by simp +contextual),fun c e hc=>⟨c,by rw [hbk];exact hc,fun _ _=>rfl⟩⟩
   ⟨[x.v],⟨rfl,hR1⟩,zaS hr hbk,hN1,hR1.wr,hbF1,by obtain ⟨c,e,h⟩:=hwb;exact ⟨c,e,by rw [hbk];exact h⟩⟩ hs1
 refine ⟨F',hM',fun c hc=>?_⟩
 rcases hF' c hc with h | h
 · exact .inl h
 rcases hF1 c h with h | h
 · exact .inl (hG c h)
 exact .inr h
instance:RepZ (RV α e):=⟨⟨.slice none 0 0,[]⟩,[.slice none 0 0],fun _=>⟨rfl,.inl ⟨none,rfl,rfl,rfl⟩⟩⟩
end
end Go.Sh
namespace Go.Sh
open Rep (rep)
abbrev RInts:=RV Int 3
abbrev RIntss:=RV RInts 33
structure DStV where
 vars:List Int
 owner:List Int
 stacks:RIntss
theorem DStV.ext_iff {x y:DStV}:x=y↔(x.vars=y.vars∧x.owner=y.owner∧x.stacks=y.stacks):=⟨fun h=>by rw [h];exact ⟨rfl,rfl,rfl⟩,fun h=>by obtain ⟨h0,h1,h2⟩:=h;cases x;cases y;simp only at h0 h1 h2;simp only [h0,h1,h2]⟩
instance:Rep DStV:=Rep.via fun x=>(x.vars,x.owner,x.stacks)
instance:RepZ DStV:=⟨⟨(RepZ.zv:List Int),(RepZ.zv:List Int),(RepZ.zv:RIntss)⟩,RepZ.zc ((List Int)×(List Int)×RIntss),fun w=>RepZ.zr (α:=(List Int)×(List Int)×RIntss) w⟩
section
variable {w:World}
end
end Go.Sh
namespace Go.Proofs.YtcnglfeoglgebaaGreat
open Go Go.Sh Go.Proofs
open Rep (rep)
theorem ze1 {lo hi:Nat} {w:World} {v:Value} {α:Type} [Rep α] {l:List α} (h:OwnI lo hi w v l):∃ a n c,v=.slice a n c:=by
 obtain ⟨a,cap,Fi,xs,hv,_⟩:=zcf h.is
 exact ⟨a,_,cap,hv⟩
theorem zfu {P:Program} {w w0:World} {α:Type} [Rep α] [Flat α] {t ty e:TypeId} {by_:Nat} {a:Option Addr} {src:Value} {m:List α} {K:Value→World→Prop} (ht:P.underlying t=some (.slice e)) (he:tyI P e=some (Rep.size α,by_,Rep.agg α))
   (hzc:(P.info? e).map (fun i=>(i.zero.map (·.cells.size)))=some (some (Rep.size α))) (hs:Is w0 src m) (hx:Ext w0 w) (hm:m.length≤maxLen) (hb:m.length*by_≤140737488355328)
   (k:∀ v' w',Ext w w'→RowI w.heap.size w'.heap.size e w' v' m→K v' w'):OP P (Builtin.append_ #[t,t] ty [.slice a 0 0,src].toArray) w K:=
 zfr (lo:=w.heap.size) (hi:=w.heap.size) (l:=([]:List α)) ht he hzc (zgr _ _ _ _ _) (Nat.le_refl _) hs hx (by simpa using hm) (by simpa using hb) fun v' w' hc hr=>k v' w' ((Ext.refl w).chgI hc (Nat.le_refl _)) (by simpa using hr)
end Go.Proofs.YtcnglfeoglgebaaGreat
namespace Go.Sh
open Rep (rep)
structure Raw where
 v:Value
instance:Rep Raw where
 size:=1
 agg:=false
 rep F _ cs x:=F=[]∧cs=[x.v]∧x.v.oneCell'=true
 pos:=by decide
 sz _:=rfl
 len:=by rintro _ _ _ _ ⟨_,rfl,_⟩;rfl
 one:=by rintro _ _ _ _ ⟨_,rfl,h⟩ v hv;simp at hv;subst hv;exact h
 keep:=by rintro _ _ _ _ _ h _;exact h
 lt:=by rintro _ _ _ _ ⟨rfl,_⟩ b hb;cases hb
section
variable {P:Program} {w w0 w' w1:World} {α β γ:Type} [Rep α] [Rep β] {e lo hi:Nat} {v:Value} {F G S:List Nat} {b o g:Nat}
theorem ChgAt.ext_left {n:Nat} (hx:Ext w w1) (h:ChgAt b o n G w1 w'):ChgAt b o n G w w':=
 ⟨(hx.chg _).trans h.chg,fun c e hc=>h.cell c e (by rw [hx.heap (Array.getElem?_eq_some_iff.1 hc).1];exact hc)⟩
theorem OAt.ext {x:α} (h:OAt G w b o x) (hx:Ext w w1):OAt G w1 b o x:=h.keep fun c hc=>hx.heap (h.lts c hc)
theorem Lens.ext {H:List Nat→World→γ→Prop} {y:β} {upd:β→γ} (h:Lens H S w b o G y upd) (hx:Ext w w1):Lens H S w1 b o G y upd:=
 ⟨h.here.ext hx,h.sub,fun w' G' y' hch hO hs=>h.back w' G' y' (hch.ext_left hx) hO hs⟩
theorem zcZ {ft by_:Nat} {u:Value} {K:Value→Prop} (hft:tyI P ft=some (1,by_,false)) (hr:w.rangeAt b o [u]) (k:K u):RD P (Instr.loadAt ft (.pointer (some ⟨b,o,none⟩))) w K:=by
 refine zaF (fun w' hx'=>?_) k
 have h0:w'.cell? ⟨b,o,none⟩=some u:=by simpa using (za8 hr hx') 0 u rfl
 have hA:=zbD hft w'
 simp [Instr.loadAt,Instr.sureAddr,loadVar,hA,h0]
theorem zoL {t by_:Nat} {u old:Value} {K:World→Prop} (ht:tyI P t=some (1,by_,false)) (hw:∃ c e,w.heap[b]?=some (.cells c e (0,0))) (hr:w.rangeAt b o [old]) (ho:old.oneCell'=true) (hu:u.oneCell'=true)
   (k:∀ w',ChgAt b o 1 [] w w'→w'.rangeAt b o [u]→K w'):OPU P (Instr.storeAt t (.pointer (some ⟨b,o,none⟩)) u) w K:=by
 refine zmM (β:=Raw) (G:=[]) (y:=⟨old⟩) (y':=⟨u⟩) (G':=[]) ht ⟨[old],⟨rfl,rfl,ho⟩,hr,List.nodup_nil,Wr.nil w,by simp,hw⟩ ⟨[u],⟨rfl,rfl,hu⟩,rfl⟩ List.nodup_nil (Wr.nil w) (by simp) fun w' hc hO=>k w' hc ?_
 obtain ⟨cs,⟨_,rfl,_⟩,hr',_⟩:=hO
 exact hr'
theorem VarI.mono {lo' hi':Nat} {x:α} (h:VarI lo hi w g x) (h1:lo'≤lo) (h2:hi≤hi'):VarI lo' hi' w g x:=by
 obtain ⟨F,h,hF⟩:=h;exact ⟨F,h,fun b hb=>by have:=hF b hb;omega⟩
theorem ze2 {t ty:TypeId} {by_:Nat} {u:Value} {x:β} {l:List β} {GX:List Nat} {K:World→Value→World→Prop} {C:Value→World→Prop} (ht:P.underlying t=some (.slice e)) (he:tyI P e=some (Rep.size β,by_,Rep.agg β)) (hz:zbd P e=true)
   (hzc:(P.info? e).map (fun i=>(i.zero.map (·.cells.size)))=some (some (Rep.size β))) (hsz:Rep.size β≤1000) (hv:RowG G e w v l) (hn:G.Nodup) (hx:Mine GX w u x) (hd:∀ c∈GX,c∉G) (hm:l.length+1≤maxLen) (hb:(l.length+1)*by_≤140737488355328)
   (k:∀ w1 v' w' G',Ext w w1→Chg G w1 w'→RowG G' e w' v' (l++[x])→G'.Nodup→(∀ c∈G',c∈G∨c∈GX∨w.heap.size≤c)→K w1 v' w')
   (hC:∀ s w1,Ext w w1→OP P (Builtin.append_ #[t,t] ty [v,s].toArray) w1 (K w1)→C s w1):OP P (Instr.buildSlice t 1 #[(0,u)]) w C:=by
 refine zeZ ht he hz hsz hx fun w1 hx1 hm1=>?_
 obtain ⟨⟨cs,⟨a,cap,Fi,xs,rfl,h1,h2,hc,h4⟩,hveq⟩,hn1,hw1⟩:=hm1
 simp only [mkv,Rep.agg,cond_false,List.headD_cons,Value.slice.injEq,List.length_cons,List.length_nil] at hveq
 obtain ⟨rfl,_,rfl⟩:=hveq
 rcases h4 with ⟨h4,_⟩ | ⟨b,o,hab,hFe,hra,hbl⟩
 · simp at h4
 simp only [List.cons.injEq] at hFe
 obtain ⟨_,rfl⟩:=hFe
 refine hC _ w1 hx1 ?_
 have key:∀ (v:Value) (F:List Nat),RowF F e w v l→F.Nodup→(∀ c∈F,c∈G)→OP P (Builtin.append_ #[t,t] ty [v,.slice (some ⟨w.heap.size,0,none⟩) 1 1].toArray) w1 (K w1):=by
   intro v F hF hFn hFG
   have hF1:=hF.ext hx1
   have hdd:(GX++F).Nodup:=by
     rw [List.nodup_append]
     exact ⟨hx.nodup,hFn,fun p hp q hq e=>hd p hp (hFG _ (e▸hq))⟩
   refine zeW (m:=[x]) ht he hzc hF1 hFn rfl hc (.inr ⟨b,o,hab,hra⟩) (hw1.sub (by simp +contextual)) hdd (by simpa using hm) (by simpa using hb) fun v' w' F' hch hfull hr' hn' hs'=>?_
   have hown:∀ c∈v.ownBlock.toList,c∈G:=fun c hc=>by
     obtain ⟨xs,Fi,_,_,rfl,_⟩:=hF
     exact hFG c (by simp only [List.mem_append];exact .inl hc)
   refine k w1 v' w' F' hx1 (hch.mono hown) (.inr hr') hn' fun c hc=>?_
   rcases hs' c hc with h | h | h
   · exact .inl (hFG c h)
   · exact .inr (.inl h)
   exact .inr (.inr (Nat.le_trans hx1.size h))
 rcases hv with ⟨a0,rfl,rfl,rfl⟩ | hF
 · have kn:=key (.slice none 0 0) [] (zgs e w) List.nodup_nil (by simp)
   cases a0 with
   | none=>exact kn
   | some x0=>
     simp only [Option.some.injEq,Addr.mk.injEq] at hab
     obtain ⟨rfl,rfl,_⟩:=hab
     exact zhX (zez (α:=β) (n:=1) ht he hzc (by simpa using Cells.len hc) hra (by omega) (by rw [zak];omega) (by simpa using hb)) kn
 exact key v G hF hn (fun _ h=>h)
theorem zeb {t:TypeId} {by_:Nat} {u:Value} {x:β} {K:Value→World→Prop} (ht:P.underlying t=some (.slice e)) (he:tyI P e=some (Rep.size β,by_,Rep.agg β)) (hz:zbd P e=true) (hsz:Rep.size β≤1000) (hx:Mine [] w u x)
   (k:∀ v w',Ext w w'→RowI w.heap.size w'.heap.size e w' v [x]→K v w'):OP P (Instr.buildSlice t 1 #[(0,u)]) w K:=by
 obtain ⟨⟨cs,hr,rfl⟩,hn,hw⟩:=hx
 have hcl:=zcF hr
 have hlen:=Rep.len hr
 have hvs:(mkv β cs).cells.size=Rep.size β:=by rw [←Array.length_toList,hcl,hlen]
 obtain ⟨i,d,hi,hd,hs,hby,hg⟩:=zbj he
 unfold zbd at hz
 rw [hi] at hz
 obtain ⟨z,hz⟩:=Option.isSome_iff_exists.1 hz
 have hpos:=Rep.pos (α:=β)
 refine ⟨_,w.alloc (.cells (mkv β cs).cells e),?_,k (.slice (some ⟨w.heap.size,0,none⟩) 1 1) _ (zaw w _) (.inr ⟨[w.heap.size],⟨cs,[],⟨by simp [hlen],.inr ⟨w.heap.size,1,(mkv β cs).cells,rfl,Nat.zero_le _,heap_alloc_new w _,Nat.le_refl _,by rw [zak];omega,by rw [hvs,Nat.one_mul],?_⟩⟩,Cells.single (zaP hr (zaw w _)),rfl,Wr.nil _⟩,by simp,?_⟩)⟩
 · have hne:¬Rep.size β=0:=by omega
   have h24:¬2^24<Rep.size β:=by omega
   simp only [Instr.buildSlice,Sem.run_bind,run_underlying ht,Result.andThen_ok,zar he,Nat.one_mul]
   simp [h24,hne,zeroValue,typeInfo,hi,hz,zkW _ _ _ hvs,newRow]
 · rw [hcl,List.length_singleton,Nat.one_mul,List.take_of_length_le (by omega)]
 intro b hb
 simp only [List.mem_cons,List.not_mem_nil,or_false] at hb
 subst hb
 exact ⟨Nat.le_refl _,(Array.getElem?_eq_some_iff.1 (heap_alloc_new w _)).1⟩
theorem Ext.toX {X:Nat→Prop} (h:Ext w w'):ExtX X w w':=⟨h.os,h.tape,h.output,h.size,fun b hb _=>h.block b hb⟩
theorem Chg.toX {X:Nat→Prop} (h:Chg G w w') (hX:∀ c∈G,X c):ExtX X w w':=⟨h.os,h.tape,h.output,h.size,fun b hb hn=>h.block b hb fun hm=>hn (hX b hm)⟩
theorem zc0 {X:Nat→Prop} {t i off:Nat} {K:Value→Prop} (hf:zcE P t i=some off) (k:K (.pointer (some ⟨b,o+off,none⟩))):RDX P X (Instr.fieldAt t (.pointer (some ⟨b,o,none⟩)) i) w K:=by
 obtain ⟨v,h1,h2⟩:=zaa (P:=P) (w:=w) (K:=fun v=>∀ w':World,(Instr.fieldAt t (.pointer (some ⟨b,o,none⟩)) i).run P w'=.ok v w'∧v=.pointer (some ⟨b,o+off,none⟩)) hf (fun w'=>by
   obtain ⟨v,h1,h2⟩:=zaa (P:=P) (w:=w') (b:=b) (o:=o) (K:=fun v=>v=.pointer (some ⟨b,o+off,none⟩)) hf rfl
   subst h2
   exact ⟨h1 w' (Ext.refl w'),rfl⟩)
 refine ⟨v,fun w' _=>(h2 w').1,?_⟩
 rw [(h2 w).2];exact k
theorem zdv {X:Nat→Prop} {ft by_:Nat} {u:Value} {K:Value→Prop} (hft:tyI P ft=some (1,by_,false)) (hr:w.rangeAt b o [u]) (hX:¬X b) (k:K u):RDX P X (Instr.loadAt ft (.pointer (some ⟨b,o,none⟩))) w K:=by
 refine ⟨u,fun w' hx'=>?_,k⟩
 have hb:=zd5 hr (by simp)
 have h0:w'.cell? ⟨b,o,none⟩=some u:=by simpa using (zaS hr (hx'.block b hb hX)) 0 u rfl
 have hA:=zbD hft w'
 simp [Instr.loadAt,Instr.sureAddr,loadVar,hA,h0]
end
end Go.Sh
namespace Go.Proofs.YtcnglfeoglgebaaGreat
open Go Go.Sh Go.Proofs
open Rep (rep)
theorem zlI:zbt Tryz.prog 3=some [.int .i64 0]:=by kernel_rfl
theorem zqj {c:DCode} (hc:CodeR c):0≤plc zbz c.procs∧(plc zbz c.procs).toNat<c.entry.length:=by
 have h1:=zjZ.2 hc.1.2.2.2.2.2.2
 have h2:=zkZ (s:=zbz) (l:=c.procs)
 have h3:=hc.2.1.1
 omega
theorem zgy {α:Type} {l:List α} {i:Nat} {x y:α} (h:y∈l.set i x):y=x∨y∈l:=by
 rcases List.mem_or_eq_of_mem_set h with h | h
 · exact .inr h
 exact .inl h
theorem zm5 {c:DCode} (hc:CodeR c) {a:Int} (h0:0≤a) (h1:a<c.ins.length) (ho:(zah c a.toNat).op≠9):a+1<c.ins.length∧zap c (a+1)=zap c a:=by
 obtain ⟨i,hi,h2,h3,h4⟩:=hc.f.find hc.1.procs8.2 h0 h1
 have h5:=(hc.2.1.2.2.2 a.toNat (by omega))
 rw [Int.toNat_of_nonneg h0,h4,zco] at h5
 have h6:zb4 c i-1≠a:=fun e=>ho (h5.2 e)
 have h7:=(hc.f.lt i hi).2
 exact ⟨by omega,by rw [h4];exact hc.f.proc hi (by omega) (by omega)⟩
theorem zm6 {c:DCode} (hc:CodeR c) {a:Int} (h0:0≤a) (h1:a<c.ins.length) (ho:(zah c a.toNat).op=2∨(zah c a.toNat).op=3) :
   0≤(zah c a.toNat).to∧(zah c a.toNat).to<c.ins.length∧zap c (zah c a.toNat).to=zap c a:=by
 obtain ⟨i,hi,h2,h3,h4⟩:=hc.f.find hc.1.procs8.2 h0 h1
 have h5:=(zgx hc (j:=a.toNat) (by omega)).2.2.2
 rw [if_pos ho,Int.toNat_of_nonneg h0,h4,zco,Int.toNat_natCast] at h5
 have h6:=hc.f.nonneg hi
 have h7:=(hc.f.lt i hi).2
 exact ⟨by omega,by omega,by rw [h4];exact hc.f.proc hi h5.1 (by omega)⟩
theorem zqk {c:DCode} (hc:CodeR c) {i:Nat} (hi:i<c.entry.length):0≤en c i∧en c i<c.ins.length∧zap c (en c i)=i:=by
 have h6:=hc.f.nonneg hi
 have h7:=hc.f.lt i hi
 exact ⟨h6,by omega,hc.f.proc hi (Int.le_refl _) h7.1⟩
end Go.Proofs.YtcnglfeoglgebaaGreat
namespace Go.Sh
def zaZ (l:List Nat):List Int:=l.map fun x:Nat=>(x:Int)
theorem zae (l:List Nat):(zaZ l).length=l.length:=by simp [zaZ]
theorem zaR {l:List Nat} {i:Nat} (h:i<(zaZ l).length):(zaZ l)[i]=((l[i]'(by rw [←zae];exact h):Nat):Int):=by simp [zaZ]
theorem zcI (l m:List Nat):zaZ (l++m)=zaZ l++zaZ m:=by simp [zaZ]
theorem zm7 (l:List Nat) (k:Nat):zaZ (l.take k)=(zaZ l).take k:=by simp [zaZ]
def mkd (ms:List Bool) (i:Nat):Prop:=ms.getD i false=true
theorem zcg {ms:List Bool} {i:Nat} (h:i<ms.length):mkd ms i↔ms[i]=true:=by
 unfold mkd;rw [List.getD_eq_getElem?_getD,List.getElem?_eq_getElem h];rfl
theorem zk4 {ms:List Bool} {i:Nat} (h:mkd ms i):i<ms.length:=by
 rcases Nat.lt_or_ge i ms.length with h' | h'
 · exact h'
 unfold mkd at h;rw [List.getD_eq_getElem?_getD,List.getElem?_eq_none h'] at h;cases h
theorem zdT {ms:List Bool} {i j:Nat} (hi:i<ms.length):mkd (ms.set i true) j↔mkd ms j∨j=i:=by
 unfold mkd
 rw [List.getD_eq_getElem?_getD,List.getD_eq_getElem?_getD,List.getElem?_set]
 by_cases h:i=j
 · subst h;simp [hi]
 have:¬j=i:=fun e=>h e.symm
 simp [h,this]
theorem zcq {n i:Nat}:¬mkd (List.replicate n false) i:=by
 unfold mkd
 rw [List.getD_eq_getElem?_getD,List.getElem?_replicate]
 split<;>simp
theorem zm8 {ms ns:List Bool} (hl:ms.length=ns.length) (h:∀ i,i<ms.length→(mkd ms i↔mkd ns i)):ms=ns:=by
 refine List.ext_getElem hl fun i h1 h2=>?_
 have:=h i h1
 rw [zcg h1,zcg h2] at this
 cases e1:ms[i]<;>cases e2:ns[i]<;>simp_all
def zk5 (ms:List Bool):Nat:=ms.count true
theorem zh4 (ms:List Bool):zk5 ms≤ms.length:=List.count_le_length
theorem zh5:∀ {ms:List Bool} {i:Nat},i<ms.length→¬mkd ms i→zk5 (ms.set i true)=zk5 ms+1
 | b :: ms,0,_,h=>by
   have:b=false:=by cases b<;>simp_all [mkd]
   subst this
   simp [zk5]
 | b :: ms,i+1,hi,h=>by
   have ih:=zh5 (ms:=ms) (i:=i) (by simpa using hi) (by simpa [mkd] using h)
   simp only [zk5,List.set_cons_succ,List.count_cons] at ih ⊢
   omega
inductive RP (nx:Nat→List Nat) (a:Nat):Nat→Prop
 | one {b:Nat} (h:b∈nx a):RP nx a b
 | more {b d:Nat} (h:RP nx a b) (k:d∈nx b):RP nx a d
theorem RP.trans {nx:Nat→List Nat} {a b d:Nat} (h:RP nx a b) (k:RP nx b d):RP nx a d:=by
 induction k with
 | one h1=>exact .more h h1
 | more _ h2 ih=>exact .more ih h2
theorem RP.keeps {nx:Nat→List Nat} {p:Nat→Prop} {a b:Nat} (h:RP nx a b) (ha:p a) (hp:∀ i j,p i→j∈nx i→p j):p b:=by
 induction h with
 | one h=>exact hp _ _ ha h
 | more _ h ih=>exact hp _ _ ih h
structure SInv (nx:Nat→List Nat) (n a:Nat) (M0 ms:List Bool) (td:List Nat) (k:Nat):Prop where
 len:ms.length=n
 sub:∀ i,mkd M0 i→mkd ms i
 src:∀ i,mkd ms i→mkd M0 i∨RP nx a i
 tdo:∀ i∈td,(i=a∨RP nx a i)∧i<n
 clo:∀ i,(i=a∨(mkd ms i∧¬mkd M0 i))→i∈td∨∀ j∈nx i,mkd ms j
 cnt:td.length+k+zk5 M0=1+zk5 ms
structure SIn2 (nx:Nat→List Nat) (n a:Nat) (M0 ms:List Bool) (td:List Nat) (k x q:Nat):Prop where
 len:ms.length=n
 sub:∀ i,mkd M0 i→mkd ms i
 src:∀ i,mkd ms i→mkd M0 i∨RP nx a i
 tdo:∀ i∈td,(i=a∨RP nx a i)∧i<n
 clo:∀ i,(i=a∨(mkd ms i∧¬mkd M0 i))→i∈td∨(i=x∧∀ j∈(nx x).take q,mkd ms j)∨∀ j∈nx i,mkd ms j
 cnt:td.length+k+1+zk5 M0=1+zk5 ms
 met:x=a∨RP nx a x
section
variable {nx:Nat→List Nat} {n a k x q:Nat} {M0 ms:List Bool} {td td':List Nat}
theorem SInv.start (hl:M0.length=n) (ha:a<n):SInv nx n a M0 M0 [a] 0:=
 ⟨hl,fun _ h=>h,fun _ h=>.inl h,fun i hi=>by simp only [List.mem_cons,List.not_mem_nil,or_false] at hi;exact ⟨.inl hi,hi▸ha⟩,fun i hi=>by
   rcases hi with rfl | ⟨h1,h2⟩
   · exact .inl (by simp)
   exact absurd h1 h2,by simp⟩
theorem SInv.bound (h:SInv nx n a M0 ms td k):td.length+k≤1+n:=by
 have h1:=h.cnt
 have h2:=zh4 ms
 rw [h.len] at h2
 omega
theorem SInv.pop (h:SInv nx n a M0 ms td k) (hm:∀ i,i∈td↔i∈td'∨i=x) (hl:td.length=td'.length+1):SIn2 nx n a M0 ms td' k x 0:=
 ⟨h.len,h.sub,h.src,fun i hi=>h.tdo i ((hm i).2 (.inl hi)),fun i hi=>by
   rcases h.clo i hi with h1 | h1
   · rcases (hm i).1 h1 with h1 | rfl
     · exact .inl h1
     exact .inr (.inl ⟨rfl,by simp⟩)
   exact .inr (.inr h1),by have:=h.cnt;omega,(h.tdo x ((hm x).2 (.inr rfl))).1⟩
theorem SIn2.skip (h:SIn2 nx n a M0 ms td k x q) (hq:q<(nx x).length) (hmk:mkd ms (nx x)[q]):SIn2 nx n a M0 ms td k x (q+1):=
 ⟨h.len,h.sub,h.src,h.tdo,fun i hi=>by
   rcases h.clo i hi with h1 | ⟨rfl,h1⟩ | h1
   · exact .inl h1
   · refine .inr (.inl ⟨rfl,fun j hj=>?_⟩)
     rw [List.take_succ_eq_append_getElem hq] at hj
     rcases List.mem_append.1 hj with hj | hj
     · exact h1 j hj
     simp only [List.mem_cons,List.not_mem_nil,or_false] at hj
     rw [hj];exact hmk
   exact .inr (.inr h1),h.cnt,h.met⟩
theorem SIn2.push (h:SIn2 nx n a M0 ms td k x q) (hq:q<(nx x).length) (hn:(nx x)[q]<n) (hmk:¬mkd ms (nx x)[q]):SIn2 nx n a M0 (ms.set (nx x)[q] true) (td++[(nx x)[q]]) k x (q+1):=by
 have hs:=fun j=>zdT (ms:=ms) (i:=(nx x)[q]) (j:=j) (by rw [h.len];exact hn)
 have hr:RP nx a (nx x)[q]:=by
   rcases h.met with e | e
   · exact .one (e▸List.getElem_mem hq)
   exact .more e (List.getElem_mem hq)
 refine ⟨by simp [h.len],fun i hi=>(hs i).2 (.inl (h.sub i hi)),fun i hi=>?_,fun i hi=>?_,fun i hi=>?_,?_,h.met⟩
 · rcases (hs i).1 hi with h1 | h1
   · exact h.src i h1
   exact .inr (h1▸hr)
 · rcases List.mem_append.1 hi with h1 | h1
   · exact h.tdo i h1
   simp only [List.mem_cons,List.not_mem_nil,or_false] at h1
   exact ⟨.inr (h1▸hr),h1▸hn⟩
 · have hi':i=(nx x)[q]∨(i=a∨(mkd ms i∧¬mkd M0 i)):=by
     rcases hi with h1 | ⟨h1,h2⟩
     · exact .inr (.inl h1)
     rcases (hs i).1 h1 with h1 | h1
     · exact .inr (.inr ⟨h1,h2⟩)
     exact .inl h1
   rcases hi' with h1 | h1
   · exact .inl (List.mem_append_right _ (by simp [h1]))
   rcases h.clo i h1 with h1 | ⟨rfl,h1⟩ | h1
   · exact .inl (List.mem_append_left _ h1)
   · refine .inr (.inl ⟨rfl,fun j hj=>?_⟩)
     rw [List.take_succ_eq_append_getElem hq] at hj
     rcases List.mem_append.1 hj with hj | hj
     · exact (hs j).2 (.inl (h1 j hj))
     simp only [List.mem_cons,List.not_mem_nil,or_false] at hj
     exact (hs j).2 (.inr hj)
   exact .inr (.inr fun j hj=>(hs j).2 (.inl (h1 j hj)))
 have:=h.cnt
 rw [zh5 (by rw [h.len];exact hn) hmk,List.length_append]
 simp only [List.length_cons,List.length_nil]
 omega
theorem SIn2.done (h:SIn2 nx n a M0 ms td k x q) (hq:(nx x).length≤q):SInv nx n a M0 ms td (k+1):=
 ⟨h.len,h.sub,h.src,h.tdo,fun i hi=>by
   rcases h.clo i hi with h1 | ⟨rfl,h1⟩ | h1
   · exact .inl h1
   · rw [List.take_of_length_le hq] at h1;exact .inr h1
   exact .inr h1,by have:=h.cnt;omega⟩
theorem SInv.fin (h:SInv nx n a M0 ms [] k) (hc:∀ i,mkd M0 i→i≠a→∀ j∈nx i,mkd M0 j) (i:Nat):mkd ms i↔mkd M0 i∨RP nx a i:=by
 refine ⟨h.src i,fun hi=>?_⟩
 rcases hi with hi | hi
 · exact h.sub i hi
 have hcl:∀ b,(b=a∨mkd ms b)→∀ j∈nx b,mkd ms j:=fun b hb=>by
   by_cases hba:b=a
   · rcases h.clo b (.inl hba) with h1 | h1
     · cases h1
     exact h1
   have hb:=hb.resolve_left hba
   by_cases hm:mkd M0 b
   · exact fun j hj=>h.sub j (hc b hm hba j hj)
   rcases h.clo b (.inr ⟨hb,hm⟩) with h1 | h1
   · cases h1
   exact h1
 induction hi with
 | one h1=>exact hcl a (.inl rfl) _ h1
 | more _ h2 ih=>exact hcl _ (.inr ih) _ h2
end
noncomputable def ze3 (n:Nat) (p:Nat→Prop):List Bool:=(List.range n).map fun i=>@decide (p i) (Classical.propDecidable _)
noncomputable def zbh (n:Nat) (p:Nat→Prop):List Nat:=(List.range n).filter fun i=>@decide (p i) (Classical.propDecidable _)
noncomputable def zfn (p:Nat→Prop):Nat→Nat
 | 0=>0
 | n+1=>zfn p n ||| (if @decide (p n) (Classical.propDecidable _) then 2^n else 0)
section
variable {n:Nat} {p q:Nat→Prop}
theorem zbp:(ze3 n p).length=n:=by simp [ze3]
theorem zdw {i:Nat}:mkd (ze3 n p) i↔i<n∧p i:=by
 constructor
 · intro h
   have hl:=zk4 h
   rw [zcg hl] at h
   rw [zbp] at hl
   refine ⟨hl,?_⟩
   simpa [ze3] using h
 rintro ⟨h1,h2⟩
 rw [zcg (by rw [zbp];exact h1)]
 simpa [ze3] using h2
theorem zec {ms:List Bool} (hl:ms.length=n) (h:∀ i,i<n→(mkd ms i↔p i)):ms=ze3 n p:=
 zm8 (by rw [hl,zbp]) fun i hi=>by
   rw [zdw,h i (hl▸hi)]
   exact ⟨fun h=>⟨hl▸hi,h⟩,fun h=>h.2⟩
theorem zhp (h:∀ i,i<n→(p i↔q i)):ze3 n p=ze3 n q:=zec zbp fun i hi=>by rw [zdw,←h i hi];exact ⟨fun h=>h.2,fun h=>⟨hi,h⟩⟩
theorem zaI {i:Nat}:i∈zbh n p↔i<n∧p i:=by simp [zbh]
theorem ziZ:zbh (n+1) p=zbh n p++(if @decide (p n) (Classical.propDecidable _) then [n] else []):=by
 simp only [zbh,List.range_succ,List.filter_append,List.filter_cons,List.filter_nil]
theorem zfY (h:p n):zbh (n+1) p=zbh n p++[n]:=by rw [ziZ];simp [h]
theorem zfv (h:¬p n):zbh (n+1) p=zbh n p:=by rw [ziZ];simp [h]
theorem zbb:(zbh n p).length≤n:=Nat.le_trans (List.length_filter_le _ _) (by simp)
theorem zbq {i:Nat}:(zfn p n).testBit i=true↔i<n∧p i:=by
 induction n with
 | zero=>simp [zfn]
 | succ n ih=>
   rw [zfn,Nat.testBit_or,Bool.or_eq_true,ih]
   by_cases hp:p n
   · simp only [hp,decide_true,if_true,Nat.testBit_two_pow,decide_eq_true_eq]
     constructor
     · rintro (⟨h1,h2⟩ | rfl)
       · exact ⟨by omega,h2⟩
       exact ⟨by omega,hp⟩
     rintro ⟨h1,h2⟩
     rcases Nat.lt_or_eq_of_le (Nat.lt_succ_iff.1 h1) with h | h
     · exact .inl ⟨h,h2⟩
     exact .inr h.symm
   simp only [hp,decide_false,Bool.false_eq_true,if_false,Nat.zero_testBit,or_false]
   constructor
   · rintro ⟨h1,h2⟩;exact ⟨by omega,h2⟩
   rintro ⟨h1,h2⟩
   rcases Nat.lt_or_eq_of_le (Nat.lt_succ_iff.1 h1) with h | h
   · exact ⟨h,h2⟩
   exact absurd (h▸h2) hp
theorem zgz:zfn p n<2^n:=by
 refine Nat.lt_pow_two_of_testBit _ fun i hi=>?_
 cases h:(zfn p n).testBit i
 · rfl
 have:=(zbq.1 h).1;omega
theorem zdx {m:Nat} (h:∀ i,m.testBit i=true↔i<n∧p i):m=zfn p n:=
 Nat.eq_of_testBit_eq fun i=>by
   have h1:=h i
   rw [←zbq] at h1
   cases e1:m.testBit i<;>cases e2:(zfn p n).testBit i<;>simp_all
theorem zbY (h:∀ i,i<n→(p i↔q i)):zfn p n=zfn q n:=zdx fun i=>by
 rw [zbq]
 exact ⟨fun ⟨h1,h2⟩=>⟨h1,(h i h1).1 h2⟩,fun ⟨h1,h2⟩=>⟨h1,(h i h1).2 h2⟩⟩
end
end Go.Sh
namespace Go.Proofs.YtcnglfeoglgebaaGreat
open Go Go.Sh Go.Proofs
open Rep (rep)
def F153 (a0 a1:Value) (w:World) (R:VW):Prop:=
 NIL a0 <|
 rF 92 a0 0 w fun x8=>
 rF 36 x8 4 w fun x9=>
 rL 34 x9 w fun x10=>
 rX 34 x10 a1 w fun x12=>
 rL 84 x12 w fun x13=>
 oP (Instr.alloc 84 true (.tuple #[])) w fun x5 w=>
 oS 84 x5 x13 w fun w=>
 rF 84 x5 0 w fun x14=>
 rL 3 x14 w fun x15=>
 rB .eql 3 T0 U0 x15 (iV 9) w fun x17=>
 BR x17
 (R (Value.slice none 0 0) w)
 (rB .eql 3 T0 U0 x15 (iV 3) w fun x19=>
 BR x19
 (rF 84 x5 3 w fun x20=>
 rL 3 x20 w fun x21=>
 oP (Instr.buildSlice 33 1 #[(0,x21)]) w fun x22 w=>
 R x22 w)
 (rB .eql 3 T0 U0 x15 (iV 2) w fun x24=>
 BR x24
 (rF 84 x5 3 w fun x25=>
 rL 3 x25 w fun x26=>
 rA a1 (iV 1) w fun x28=>
 rB .neq 3 T0 T0 x26 x28 w fun x29=>
 BR x29
 (rA a1 (iV 1) w fun x31=>
 rF 84 x5 3 w fun x32=>
 rL 3 x32 w fun x33=>
 oP (Instr.buildSlice 33 2 #[(0,x31),(1,x33)]) w fun x34 w=>
 R x34 w)
 (rA a1 (iV 1) w fun x36=>
 oP (Instr.buildSlice 33 1 #[(0,x36)]) w fun x37 w=>
 R x37 w))
 (rA a1 (iV 1) w fun x36=>
 oP (Instr.buildSlice 33 1 #[(0,x36)]) w fun x37 w=>
 R x37 w)))
def cfg153:Cfg:=⟨extL,[],[],[],[],[],[]⟩
theorem F153_call {a0 a1:Value} {w:World} {R:VW} (h:F153 a0 a1 w R):cL 153 [a0,a1] w R:=co (g:=cfg153) Tryz.func153 (by kernel_rfl) (by kernel_rfl) (by kernel_rfl) h
def zax (c:DCode) (i:Nat):List Nat:=
 if (zah c i).op=9 then [] else if (zah c i).op=3 then [(zah c i).to.toNat] else if (zah c i).op=2∧(zah c i).to≠(i:Int)+1 then [i+1,(zah c i).to.toNat] else [i+1]
theorem zb5 {c:DCode} (hc:CodeR c) {i j:Nat} (hi:i<c.ins.length) (h:j∈zax c i):j<c.ins.length∧zap c j=zap c i:=by
 have h9:=zm5 hc (a:=(i:Int)) (by omega) (by omega)
 have hto:=zm6 hc (a:=(i:Int)) (by omega) (by omega)
 simp only [Int.toNat_natCast] at h9 hto
 unfold zax at h
 split at h
 · cases h
 rename_i ho
 have h1:=h9 ho
 have e1:((i+1:Nat):Int)=(i:Int)+1:=by omega
 split at h
 · rename_i h3
   simp only [List.mem_cons,List.not_mem_nil,or_false] at h
   subst h
   have h2:=hto (.inr h3)
   rw [Int.toNat_of_nonneg h2.1]
   exact ⟨by omega,h2.2.2⟩
 split at h
 · rename_i h2
   simp only [List.mem_cons,List.not_mem_nil,or_false] at h
   rcases h with rfl | rfl
   · exact ⟨by omega,by rw [e1];exact h1.2⟩
   have h2:=hto (.inl h2.1)
   rw [Int.toNat_of_nonneg h2.1]
   exact ⟨by omega,h2.2.2⟩
 simp only [List.mem_cons,List.not_mem_nil,or_false] at h
 subst h
 exact ⟨by omega,by rw [e1];exact h1.2⟩
theorem zgA (c:DCode) (i:Nat):(zax c i).length≤2:=by
 unfold zax
 split
 · simp
 split
 · simp
 split<;>simp
section
variable {P:Program} {w:World} {K:Value→World→Prop}
def vsI (l:List Int):List Value:=l.map fun x=>.int .i64 x
theorem zi0 {w:World}:∀ {l:List Int},(∀ x∈l,I64 x)→Cells [] w (vsI l) l
 | [],_=>⟨rfl,rfl⟩
 | x :: l,h=>⟨[],[],[.int .i64 x],vsI l,rfl,rfl,⟨rfl,rfl,h x (by simp)⟩,zi0 fun y hy=>h y (by simp [hy])⟩
theorem zql {l:List Int} {e:Nat} (hl:∀ x∈l,I64 x) (hm:l.length≤maxLen):Own w.heap.size (w.alloc (.cells (vsI l).toArray e)) (.slice (some ⟨w.heap.size,0,none⟩) l.length l.length) l:=by
 have hB:Blk w.heap.size e (w.alloc (.cells (vsI l).toArray e)) (vsI l):=heap_alloc_new w _
 refine ⟨[w.heap.size],⟨⟨_,⟨some ⟨w.heap.size,0,none⟩,l.length,[],vsI l,rfl,Nat.le_refl _,hm,zi0 hl,.inr ⟨_,_,rfl,rfl,hB.range,?_⟩⟩,rfl⟩,by simp,fun i hi=>?_⟩,by simp⟩
 · exact (Array.getElem?_eq_some_iff.1 hB).1
 simp only [List.mem_cons,List.not_mem_nil,or_false] at hi
 subst hi
 exact ⟨_,_,hB⟩
theorem zlT {t e:TypeId} {by_:Nat} {x y:Int} (ht:P.underlying t=some (.slice e)) (he:tyI P e=some (1,by_,false)) (hz:zbt P e=some [.int .i64 0]) (hx:I64 x) (hy:I64 y)
   (k:∀ v w',Ext w w'→Own w.heap.size w' v [x,y]→K v w'):OP P (Instr.buildSlice t 2 #[(0,.int .i64 x),(1,.int .i64 y)]) w K:=by
 unfold zbt at hz
 cases hi:P.info? e with
 | none=>simp [hi] at hz
 | some i=>
   simp only [hi] at hz
   obtain ⟨v,hv,hvc⟩:=Option.map_eq_some_iff.1 hz
   refine ⟨_,w.alloc (.cells (vsI [x,y]).toArray e),?_,k _ _ (zaw w _) (zql (l:=[x,y]) (e:=e) (by simp [hx,hy]) (by simp [maxLen]))⟩
   have hvc':v.cells=#[.int .i64 0]:=Array.ext' (by simpa using hvc)
   have e1:∀ n:Int,(Value.int .i64 n).cells=#[.int .i64 n]:=fun _=>rfl
   simp only [Instr.buildSlice,Sem.run_bind,run_underlying ht,Result.andThen_ok,zar he]
   have e2:Array.range 2=#[0,1]:=by decide
   simp [zeroValue,typeInfo,hi,hv,newRow,Instr.fill,hvc',vsI,e1,e2]
end
theorem zsi:zbt Tryz.prog 3=some [.int .i64 0]:=by kernel_rfl
theorem zgB {w W0:World} {b:Nat} {c:DCode} {i:Nat} (hA:At W0 b 0 c) (e0:Ext W0 w) (hc:CodeR c) (hi:i<c.ins.length) :
   CALL Tryz.prog 153 [.pointer (some ⟨b,0,none⟩),.int .i64 (i:Int)] w fun r w'=>Ext w w'∧Own w.heap.size w' r (zaZ (zax c i)):=by
 refine F153_call ?_
 unfold F153
 have hil:=hc.f.ins
 have hto:=zm6 hc (a:=(i:Int)) (by omega) (by omega)
 simp only [Int.toNat_natCast] at hto
 refine NIL.mk rfl ?_
 refine zaa zaU ?_
 refine zaa zaK ?_
 refine zab zdG (zat hA) e0 fun v10 h10=>?_
 refine zad u34 zem h10 hi fun b12 o12 h12=>?_
 rw [zaY] at h12
 have hnx:zax c i=if (zah c i).op=9 then [] else if (zah c i).op=3 then [(zah c i).to.toNat] else if (zah c i).op=2∧(zah c i).to≠(i:Int)+1 then [i+1,(zah c i).to.toNat] else [i+1]:=rfl
 generalize zah c i=I at *
 refine zab zem h12 e0 fun v13 h13=>?_
 refine zbB zqc rfl zem rfl h13 e0 fun w1 hx1 hA5 hV5=>?_
 refine zaa zbK ?_
 refine zac ty3 (zaG hA5) (Ext.refl _) fun _=>?_
 refine zai ?_
 refine br (fun c9=>?_) (fun c9=>?_)
 · rw [hnx,if_pos c9]
   exact ⟨hx1,zgf rfl⟩
 rw [if_neg c9] at hnx
 refine zai ?_
 refine br (fun c3=>?_) (fun c3=>?_)
 · rw [if_pos c3] at hnx
   have ht:=hto (.inr c3)
   refine zaa zeX ?_
   refine zac ty3 (zb8 hA5) (Ext.refl _) fun hI=>?_
   refine zeb (x:=I.to) u33 ty3 z3 (by decide) (zcR hI) fun v w2 hx2 hr=>?_
   refine ⟨hx1.trans hx2,?_⟩
   rw [hnx]
   have e:zaZ [I.to.toNat]=[I.to]:=by simp [zaZ,Int.toNat_of_nonneg ht.1]
   rw [e]
   have:=hx1.size
   exact hr.own.own.mono (by omega)
 rw [if_neg c3] at hnx
 have e1:zaZ [i+1]=[((i+1:Nat):Int)]:=by simp [zaZ]
 refine zai ?_
 refine br (fun c2=>?_) (fun c2=>?_)
 · have ht:=hto (.inl c2)
   refine zaa zeX ?_
   refine zac ty3 (zb8 hA5) (Ext.refl _) fun hI=>?_
   refine zag (by omega) ?_
   refine zaT ?_
   refine br (fun cn=>?_) (fun cn=>?_)
   · rw [if_pos ⟨c2,by omega⟩] at hnx
     refine zag (by omega) ?_
     refine zaa zeX ?_
     refine zac ty3 (zb8 hA5) (Ext.refl _) fun _=>?_
     refine zlT u33 ty3 zsi (by unfold I64;omega) hI fun v w2 hx2 hr=>?_
     refine ⟨hx1.trans hx2,?_⟩
     have e:zaZ [i+1,I.to.toNat]=[((i+1:Nat):Int),I.to]:=by simp [zaZ,Int.toNat_of_nonneg ht.1]
     rw [hnx,e]
     have:=hx1.size
     exact hr.mono (by omega)
   rw [if_neg (fun h=>cn (by have:=h.2;omega))] at hnx
   refine zag (by omega) ?_
   refine zeb (x:=((i+1:Nat):Int)) u33 ty3 z3 (by decide) (zcR (by unfold I64;omega)) fun v w2 hx2 hr=>?_
   refine ⟨hx1.trans hx2,?_⟩
   rw [hnx,e1]
   have:=hx1.size
   exact hr.own.own.mono (by omega)
 rw [if_neg (fun h=>c2 h.1)] at hnx
 refine zag (by omega) ?_
 refine zeb (x:=((i+1:Nat):Int)) u33 ty3 z3 (by decide) (zcR (by unfold I64;omega)) fun v w2 hx2 hr=>?_
 refine ⟨hx1.trans hx2,?_⟩
 rw [hnx,e1]
 have:=hx1.size
 exact hr.own.own.mono (by omega)
end Go.Proofs.YtcnglfeoglgebaaGreat
namespace Go.Sh
open Rep (rep)
section
variable {P:Program} {w w0 w':World} {α:Type} [Rep α] {lo hi e:Nat} {v:Value} {l:List α}
theorem RowG.flat [Flat α] {F:List Nat} (h:RowG F e w v l):F=[]∨∃ b,F=[b]:=by
 rcases h with ⟨_,_,_,rfl⟩ | ⟨xs,Fi,_,hc,rfl,_⟩
 · exact .inl rfl
 have:=Cells.flat (xs:=xs) hc
 subst this
 rcases hv:v.ownBlock with _ | b
 · exact .inl (by simp)
 exact .inr ⟨b,by simp⟩
theorem Chg.ofI {F:List Nat} (h:Chg F w w') (hF:∀ b∈F,lo≤b∧b<hi):ChgI lo hi w w':=
 ⟨h.os,h.tape,h.output,h.size,fun b hb hx=>h.block b hb fun hm=>by have:=hF b hm;omega⟩
theorem ChgI.ext_left {w1:World} (hx:Ext w w1) (h:ChgI lo hi w1 w'):ChgI lo hi w w':=
 ⟨h.os.trans hx.os,h.tape.trans hx.tape,h.output.trans hx.output,Nat.le_trans hx.size h.size,fun b hb ho=>by rw [h.block b (Nat.lt_of_lt_of_le hb hx.size) ho,hx.block b hb]⟩
theorem zgC [Flat α] {t ty:TypeId} {by_:Nat} {u:Value} {x:α} {lo2 hi2:Nat} {K:Value→World→Prop} (ht:P.underlying t=some (.slice e)) (he:tyI P e=some (Rep.size α,by_,Rep.agg α)) (hz:zbd P e=true)
   (hzc:(P.info? e).map (fun i=>(i.zero.map (·.cells.size)))=some (some (Rep.size α))) (hsz:Rep.size α≤1000) (hv:RowI lo hi e w v l) (hx:OwnI lo2 hi2 w u x) (hm:l.length+1≤maxLen) (hb:(l.length+1)*by_≤140737488355328)
   (k:∀ v' w' lo' hi',ChgI lo hi w w'→RowI lo' hi' e w' v' (l++[x])→(lo'=lo∧hi'=hi∨lo'=w.heap.size∧hi'=w'.heap.size)→K v' w'):OP P (Instr.buildSlice t 1 #[(0,u)]) w fun s w1=>OP P (Builtin.append_ #[t,t] ty [v,s].toArray) w1 K:=by
 obtain ⟨F,h1,h2,h3⟩:=zdu.1 hv
 obtain ⟨G,hmx,hG⟩:=hx
 have hGn:G=[]:=by obtain ⟨cs,hr,_⟩:=hmx.own;exact Flat.flat hr
 subst hGn
 refine ze2 (K:=fun _=>K) ht he hz hzc hsz h1 h2 hmx (by simp) hm hb (fun w1 v' w' G' hx1 hc hR hN hs=>?_) fun _ _ _ h=>h
 have hcI:=ChgI.ext_left hx1 (hc.ofI h3)
 have hlt:=hR.lt
 rcases hR.flat with rfl | ⟨b,rfl⟩
 · exact k v' w' lo hi hcI (zdu.2 ⟨[],hR,hN,by simp⟩) (.inl ⟨rfl,rfl⟩)
 rcases hs b (by simp) with h | h | h
 · exact k v' w' lo hi hcI (zdu.2 ⟨[b],hR,hN,fun c hc=>by simp at hc;subst hc;exact h3 _ h⟩) (.inl ⟨rfl,rfl⟩)
 · cases h
 exact k v' w' w.heap.size w'.heap.size hcI (zdu.2 ⟨[b],hR,hN,fun c hc=>by simp at hc;subst hc;exact ⟨h,hlt _ (by simp)⟩⟩) (.inr ⟨rfl,rfl⟩)
end
end Go.Sh
