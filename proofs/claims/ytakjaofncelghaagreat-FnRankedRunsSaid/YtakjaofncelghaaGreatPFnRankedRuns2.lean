/-
  Parts of the proof, put together by program.
-/
import Derived.Test.YtakjaofncelghaaGreatPFnRankedRuns1
set_option linter.unusedVariables false
set_option linter.unusedSimpArgs false
set_option linter.unusedSectionVars false
namespace Go.Sh
open Rep (rep)
inductive DTerm where
 | mk (kind num:Int) (name:ByteArray) (kids:List DTerm)
namespace DTerm
def kind:DTerm→Int | .mk k _ _ _=>k
def num:DTerm→Int | .mk _ n _ _=>n
def name:DTerm→ByteArray | .mk _ _ s _=>s
def kids:DTerm→List DTerm | .mk _ _ _ l=>l
def tup (t:DTerm):Int×Int×ByteArray×List DTerm:=(t.kind,t.num,t.name,t.kids)
end DTerm
theorem DTerm.eta (t:DTerm):DTerm.mk t.kind t.num t.name t.kids=t:=by cases t;rfl
theorem DTerm.ext_iff {x y:DTerm}:x=y↔(x.kind=y.kind∧x.num=y.num∧x.name=y.name∧x.kids=y.kids):=by
 constructor
 · intro h;rw [h];exact ⟨rfl,rfl,rfl,rfl⟩
 rintro ⟨h1,h2,h3,h4⟩;rw [←DTerm.eta x,←DTerm.eta y,h1,h2,h3,h4]
theorem DTerm.kid_lt {t k:DTerm} (h:k∈t.kids):SizeOf.sizeOf k<SizeOf.sizeOf t:=by
 cases t with
 | mk a b c l=>
   have:k∈l:=h;have:=List.sizeOf_lt_of_mem this;simp only [DTerm.mk.sizeOf_spec];omega
theorem DTerm.ind {p:DTerm→Prop} (h:∀ t,(∀ k∈t.kids,p k)→p t) (t:DTerm):p t:=
  h t λk hk=>DTerm.ind h k
termination_by SizeOf.sizeOf t
decreasing_by exact DTerm.kid_lt hk
mutual
def DTerm.beq:DTerm→DTerm→Bool
  | .mk a b c l,.mk a' b' c' l'=>decide (a=a')&&decide (b=b')&&decide (c=c')&&DTerm.beqL l l'
def DTerm.beqL:List DTerm→List DTerm→Bool
  | [],[]=>true
  | x :: l,y :: m=>DTerm.beq x y&&DTerm.beqL l m
  | _,_=>false
end
mutual
theorem DTerm.beq_iff:∀ (x y:DTerm),DTerm.beq x y=true↔x=y
  | .mk a b c l,.mk a' b' c' l'=>by
    simp only [DTerm.beq,Bool.and_eq_true,decide_eq_true_eq,DTerm.mk.injEq,DTerm.beqL_iff l l',and_assoc]
theorem DTerm.beqL_iff:∀ (x y:List DTerm),DTerm.beqL x y=true↔x=y
  | [],[]=>by simp [DTerm.beqL]
  | [],y :: m=>by simp [DTerm.beqL]
  | x :: l,[]=>by simp [DTerm.beqL]
  | x :: l,y :: m=>by simp only [DTerm.beqL,Bool.and_eq_true,DTerm.beq_iff x y,DTerm.beqL_iff l m,List.cons.injEq]
end
instance:DecidableEq DTerm:=λx y=>decidable_of_iff _ (DTerm.beq_iff x y)
mutual
def zoi:DTerm→List Nat→World→List Value→Prop
  | .mk k n s ks,F,w,cs=>∃ a cap Fi xs,cs=[.int .i64 k,.int .i64 n,.string s,.slice a ks.length cap]∧I64 k∧I64 n∧s.size≤maxLen∧ks.length≤cap∧cap≤maxLen∧ze2 ks Fi w xs ∧
    ((ks=[]∧F=[])∨∃ b o,a=some ⟨b,o,none⟩∧F=b :: Fi∧w.rangeAt b o xs∧b<w.heap.size)
def ze2:List DTerm→List Nat→World→List Value→Prop
  | [],F,_,xs=>F=[]∧xs=[]
  | y :: ys,F,w,xs=>∃ F1 F2 c1 c2,F=F1++F2∧xs=c1++c2∧zoi y F1 w c1∧ze2 ys F2 w c2
end
theorem zt0 {t:DTerm} {F:List Nat} {w:World} {cs:List Value} (h:zoi t F w cs):cs.length=4:=by
 cases t;rw [zoi] at h;obtain ⟨a,cap,Fi,xs,rfl,_⟩:=h;rfl
theorem zt1 {t:DTerm} {F:List Nat} {w:World} {cs:List Value} (h:zoi t F w cs):∀ v∈cs,v.oneCell'=true:=by
 cases t;rw [zoi] at h;obtain ⟨a,cap,Fi,xs,rfl,_⟩:=h;intro v hv;simp only [List.mem_cons,List.not_mem_nil,or_false] at hv;rcases hv with rfl | rfl | rfl | rfl<;>rfl
mutual
theorem zmB:∀ (t:DTerm) {F:List Nat} {w w':World} {cs:List Value},zoi t F w cs→(∀ b∈F,w'.heap[b]?=w.heap[b]?)→zoi t F w' cs
  | .mk k n s ks,F,w,w',cs,h,hk=>by
    rw [zoi] at h ⊢;obtain ⟨a,cap,Fi,xs,hcs,i1,i2,i3,h1,h2,hc,h4⟩:=h;rcases h4 with ⟨rfl,rfl⟩ | ⟨b,o,ha,hF,hr,hb⟩
    · exact ⟨a,cap,Fi,xs,hcs,i1,i2,i3,h1,h2,by rw [ze2] at hc ⊢;exact hc,.inl ⟨rfl,rfl⟩⟩
    subst hF;have hbb:=hk b (by simp);refine ⟨a,cap,Fi,xs,hcs,i1,i2,i3,h1,h2,zji ks hc λc hc=>hk c (by simp [hc]),.inr ⟨b,o,ha,rfl,za2 hr hbb,?_⟩⟩;rcases Nat.lt_or_ge b (Array.size (World.heap w')) with h' | h'
    · exact h'
    rw [Array.getElem?_eq_none h'] at hbb;simp [Array.getElem?_eq_getElem hb] at hbb
theorem zji:∀ (l:List DTerm) {F:List Nat} {w w':World} {cs:List Value},ze2 l F w cs→(∀ b∈F,w'.heap[b]?=w.heap[b]?)→ze2 l F w' cs
  | [],F,w,w',cs,h,_=>by rw [ze2] at h ⊢;exact h
  | y :: ys,F,w,w',cs,h,hk=>by
    rw [ze2] at h ⊢;obtain ⟨F1,F2,c1,c2,rfl,rfl,h1,h2⟩:=h;exact ⟨F1,F2,c1,c2,rfl,rfl,zmB y h1 λb hb=>hk b (by simp [hb]),zji ys h2 λb hb=>hk b (by simp [hb])⟩
end
mutual
theorem zrS:∀ (t:DTerm) {F:List Nat} {w:World} {cs:List Value},zoi t F w cs→∀ b∈F,b<w.heap.size
  | .mk k n s ks,F,w,cs,h,c,hm=>by
    rw [zoi] at h;obtain ⟨a,cap,Fi,xs,hcs,i1,i2,i3,h1,h2,hc,h4⟩:=h;rcases h4 with ⟨rfl,rfl⟩ | ⟨b,o,ha,hF,hr,hb⟩
    · cases hm
    subst hF;rcases List.mem_cons.1 hm with rfl | hm
    · exact hb
    exact zmC ks hc c hm
theorem zmC:∀ (l:List DTerm) {F:List Nat} {w:World} {cs:List Value},ze2 l F w cs→∀ b∈F,b<w.heap.size
  | [],F,w,cs,h,c,hm=>by rw [ze2] at h;rw [h.1] at hm;cases hm
  | y :: ys,F,w,cs,h,c,hm=>by
    rw [ze2] at h;obtain ⟨F1,F2,c1,c2,rfl,rfl,h1,h2⟩:=h;rcases List.mem_append.1 hm with hm | hm
    · exact zrS y h1 c hm
    exact zmC ys h2 c hm
end
instance:Rep DTerm where
 size:=4
 agg:=true
 rep F w cs x:=zoi x F w cs
 pos:=by decide
 sz h:=by cases h
 len h:=zt0 h
 one h:=zt1 h
 keep h hk:=zmB _ h hk
 lt h:=zrS _ h
theorem zg3 {w:World}:∀ {l:List DTerm} {F:List Nat} {xs:List Value},ze2 l F w xs↔Cells F w xs l
 | [],F,xs=>by rw [ze2];exact Iff.rfl
 | y :: ys,F,xs=>by
   rw [ze2];constructor
   · rintro ⟨F1,F2,c1,c2,h1,h2,h3,h4⟩;exact ⟨F1,F2,c1,c2,h1,h2,h3,zg3.1 h4⟩
   rintro ⟨F1,F2,c1,c2,h1,h2,h3,h4⟩;exact ⟨F1,F2,c1,c2,h1,h2,h3,zg3.2 h4⟩
theorem zgC {w:World} {F:List Nat} {cs:List Value} {t:DTerm}:rep F w cs t↔rep F w cs t.tup:=by
 obtain ⟨k,n,s,ks⟩:=t;show zoi _ F w cs↔_;rw [zoi];constructor
 · rintro ⟨a,cap,Fi,xs,rfl,i1,i2,i3,h1,h2,hc,h4⟩
   refine ⟨[],F,[.int .i64 k],_,rfl,rfl,⟨rfl,rfl,i1⟩,[],F,[.int .i64 n],_,rfl,rfl,⟨rfl,rfl,i2⟩,[],F,[.string s],_,rfl,rfl,⟨rfl,rfl,i3⟩,a,cap,Fi,xs,rfl,h1,h2,zg3.1 hc,h4⟩
 rintro ⟨_,_,_,_,rfl,rfl,⟨rfl,rfl,i1⟩,_,_,_,_,rfl,rfl,⟨rfl,rfl,i2⟩,_,_,_,_,rfl,rfl,⟨rfl,rfl,i3⟩,a,cap,Fi,xs,rfl,h1,h2,hc,h4⟩;exact ⟨a,cap,Fi,xs,rfl,i1,i2,i3,h1,h2,zg3.2 hc,h4⟩
theorem zps {w:World} {b o:Nat} {t:DTerm}:At w b o t↔At w b o t.tup:=
 ⟨λ⟨F,cs,h,k⟩=>⟨F,cs,zgC.1 h,k⟩,λ⟨F,cs,h,k⟩=>⟨F,cs,zgC.2 h,k⟩⟩
theorem zrT {w:World} {G:List Nat} {b o:Nat} {t:DTerm}:OAt G w b o t↔OAt G w b o t.tup:=
 ⟨λ⟨cs,h,k⟩=>⟨cs,zgC.1 h,k⟩,λ⟨cs,h,k⟩=>⟨cs,zgC.2 h,k⟩⟩
section
variable {w:World} {b o:Nat}
theorem zbn {x:DTerm} (h:At w b o x):At w b (o+0) x.kind:=zcW (α:=Int) (β:=Int×ByteArray×List DTerm) (p:=x.tup) (zps.1 h)
theorem zbM {x:DTerm} (h:At w b o x):At w b (o+1) x.num:=zcW (α:=Int) (β:=ByteArray×List DTerm) (p:=(x.num,x.name,x.kids)) (zbj (α:=Int) (β:=Int×ByteArray×List DTerm) (p:=x.tup) (zps.1 h))
theorem zbv {x:DTerm} (h:At w b o x):At w b (o+2) x.name:=zcW (α:=ByteArray) (β:=List DTerm) (p:=(x.name,x.kids)) (zbj (α:=Int) (β:=ByteArray×List DTerm) (p:=(x.num,x.name,x.kids)) (zbj (α:=Int) (β:=Int×ByteArray×List DTerm) (p:=x.tup) (zps.1 h)))
theorem zaG {x:DTerm} (h:At w b o x):At w b (o+3) x.kids:=zbj (α:=ByteArray) (β:=List DTerm) (p:=(x.name,x.kids)) (zbj (α:=Int) (β:=ByteArray×List DTerm) (p:=(x.num,x.name,x.kids)) (zbj (α:=Int) (β:=Int×ByteArray×List DTerm) (p:=x.tup) (zps.1 h)))
theorem zrU {x:DTerm} {F0:List Nat} {c0:List Value} (h0:rep F0 w c0 x.kind) {F1:List Nat} {c1:List Value} (h1:rep F1 w c1 x.num) {F2:List Nat} {c2:List Value} (h2:rep F2 w c2 x.name) {F3:List Nat} {c3:List Value} (h3:rep F3 w c3 x.kids) :
   rep (F0++(F1++(F2++F3))) w (c0++(c1++(c2++c3))) x:=zgC.2 (zaI h0 (zaI h1 (zaI h2 h3)))
end
theorem Lens.term {w:World} {γ:Type} {H:List Nat→World→γ→Prop} {F:List Nat} {b o:Nat} {G:List Nat} {t:DTerm} {upd:DTerm→γ} (h:Lens H F w b o G t upd) :
   Lens H F w b o G t.tup (λp=>upd (.mk p.1 p.2.1 p.2.2.1 p.2.2.2)):=
 ⟨zrT.1 h.here,h.sub,λw' G' y' hc hO hs=>h.back w' G' _ hc (zrT.2 hO) hs⟩
instance:RepZ DTerm:=⟨.mk 0 0 ByteArray.empty [],RepZ.zc (Int×Int×ByteArray×List DTerm),λw=>zgC.2 (RepZ.zr (α:=Int×Int×ByteArray×List DTerm) w)⟩
section
variable {γ:Type} {H:List Nat→World→γ→Prop} {F:List Nat} {w:World} {b o:Nat} {G:List Nat} {x:DTerm} {upd:DTerm→γ}
end
structure DIns where
 op:Int
 arg:Int
 term:DTerm
 to:Int
theorem DIns.ext_iff {x y:DIns}:x=y↔(x.op=y.op∧x.arg=y.arg∧x.term=y.term∧x.to=y.to):=⟨λh=>by rw [h];exact ⟨rfl,rfl,rfl,rfl⟩,λh=>by obtain ⟨h0,h1,h2,h3⟩:=h;cases x;cases y;simp only at h0 h1 h2 h3;simp only [h0,h1,h2,h3]⟩
instance:DecidableEq DIns:=λx y=>decidable_of_iff (x.op=y.op∧x.arg=y.arg∧x.term=y.term∧x.to=y.to) DIns.ext_iff.symm
instance:Rep DIns:=Rep.via λx=>(x.op,x.arg,x.term,x.to)
theorem zaA {w:World} {b o:Nat} {x:DIns} (h:At w b o x):At w b (o+0) x.op:=zcW (α:=Int) (β:=Int×DTerm×Int) (p:=(x.op,x.arg,x.term,x.to)) h
theorem zaw {w:World} {b o:Nat} {x:DIns} (h:At w b o x):At w b (o+1) x.arg:=zcW (α:=Int) (β:=DTerm×Int) (p:=(x.arg,x.term,x.to)) (zbj (α:=Int) (β:=Int×DTerm×Int) (p:=(x.op,x.arg,x.term,x.to)) h)
theorem zb3 {w:World} {b o:Nat} {x:DIns} (h:At w b o x):At w b (o+2) x.term:=zcW (α:=DTerm) (β:=Int) (p:=(x.term,x.to)) (zbj (α:=Int) (β:=DTerm×Int) (p:=(x.arg,x.term,x.to)) (zbj (α:=Int) (β:=Int×DTerm×Int) (p:=(x.op,x.arg,x.term,x.to)) h))
theorem zbB {w:World} {b o:Nat} {x:DIns} (h:At w b o x):At w b (o+6) x.to:=zbj (α:=DTerm) (β:=Int) (p:=(x.term,x.to)) (zbj (α:=Int) (β:=DTerm×Int) (p:=(x.arg,x.term,x.to)) (zbj (α:=Int) (β:=Int×DTerm×Int) (p:=(x.op,x.arg,x.term,x.to)) h))
instance:RepZ DIns:=⟨⟨(RepZ.zv:Int),(RepZ.zv:Int),(RepZ.zv:DTerm),(RepZ.zv:Int)⟩,RepZ.zc (Int×Int×DTerm×Int),λw=>RepZ.zr (α:=Int×Int×DTerm×Int) w⟩
theorem zoj {γ:Type} {H:List Nat→World→γ→Prop} {F:List Nat} {w:World} {b o:Nat} {G:List Nat} {x:DIns} {upd:DIns→γ} (h:Lens H F w b o G x upd) :
   ∃ G1,Lens H F w b (o+6) G1 x.to (λy=>upd ⟨x.op,x.arg,x.term,y⟩):=by
 have h':Lens H F w b o G (x.op,x.arg,x.term,x.to) (λp:Int×Int×DTerm×Int=>upd ⟨p.1,p.2.1,p.2.2.1,p.2.2.2⟩):=⟨h.here,h.sub,λw' G' y' hc hO hs=>h.back w' G' _ hc hO hs⟩;obtain ⟨G0,h'⟩:=h'.snd;obtain ⟨G1,h'⟩:=h'.snd;obtain ⟨G2,h'⟩:=h'.snd;exact ⟨_,h'⟩
structure DCode where
 globals:List ByteArray
 locks:List ByteArray
 procs:List ByteArray
 entry:List Int
 ins:List DIns
theorem DCode.ext_iff {x y:DCode}:x=y↔(x.globals=y.globals∧x.locks=y.locks∧x.procs=y.procs∧x.entry=y.entry∧x.ins=y.ins):=⟨λh=>by rw [h];exact ⟨rfl,rfl,rfl,rfl,rfl⟩,λh=>by obtain ⟨h0,h1,h2,h3,h4⟩:=h;cases x;cases y;simp only at h0 h1 h2 h3 h4;simp only [h0,h1,h2,h3,h4]⟩
instance:DecidableEq DCode:=λx y=>decidable_of_iff (x.globals=y.globals∧x.locks=y.locks∧x.procs=y.procs∧x.entry=y.entry∧x.ins=y.ins) DCode.ext_iff.symm
instance:Rep DCode:=Rep.via λx=>(x.globals,x.locks,x.procs,x.entry,x.ins)
theorem zbe {w:World} {b o:Nat} {x:DCode} (h:At w b o x):At w b (o+0) x.globals:=zcW (α:=List ByteArray) (β:=(List ByteArray)×(List ByteArray)×(List Int)×(List DIns)) (p:=(x.globals,x.locks,x.procs,x.entry,x.ins)) h
theorem zba {w:World} {b o:Nat} {x:DCode} (h:At w b o x):At w b (o+1) x.locks:=zcW (α:=List ByteArray) (β:=(List ByteArray)×(List Int)×(List DIns)) (p:=(x.locks,x.procs,x.entry,x.ins)) (zbj (α:=List ByteArray) (β:=(List ByteArray)×(List ByteArray)×(List Int)×(List DIns)) (p:=(x.globals,x.locks,x.procs,x.entry,x.ins)) h)
theorem zbb {w:World} {b o:Nat} {x:DCode} (h:At w b o x):At w b (o+2) x.procs:=zcW (α:=List ByteArray) (β:=(List Int)×(List DIns)) (p:=(x.procs,x.entry,x.ins)) (zbj (α:=List ByteArray) (β:=(List ByteArray)×(List Int)×(List DIns)) (p:=(x.locks,x.procs,x.entry,x.ins)) (zbj (α:=List ByteArray) (β:=(List ByteArray)×(List ByteArray)×(List Int)×(List DIns)) (p:=(x.globals,x.locks,x.procs,x.entry,x.ins)) h))
theorem zap {w:World} {b o:Nat} {x:DCode} (h:At w b o x):At w b (o+3) x.entry:=zcW (α:=List Int) (β:=(List DIns)) (p:=(x.entry,x.ins)) (zbj (α:=List ByteArray) (β:=(List Int)×(List DIns)) (p:=(x.procs,x.entry,x.ins)) (zbj (α:=List ByteArray) (β:=(List ByteArray)×(List Int)×(List DIns)) (p:=(x.locks,x.procs,x.entry,x.ins)) (zbj (α:=List ByteArray) (β:=(List ByteArray)×(List ByteArray)×(List Int)×(List DIns)) (p:=(x.globals,x.locks,x.procs,x.entry,x.ins)) h)))
theorem zal {w:World} {b o:Nat} {x:DCode} (h:At w b o x):At w b (o+4) x.ins:=zbj (α:=List Int) (β:=(List DIns)) (p:=(x.entry,x.ins)) (zbj (α:=List ByteArray) (β:=(List Int)×(List DIns)) (p:=(x.procs,x.entry,x.ins)) (zbj (α:=List ByteArray) (β:=(List ByteArray)×(List Int)×(List DIns)) (p:=(x.locks,x.procs,x.entry,x.ins)) (zbj (α:=List ByteArray) (β:=(List ByteArray)×(List ByteArray)×(List Int)×(List DIns)) (p:=(x.globals,x.locks,x.procs,x.entry,x.ins)) h)))
instance:RepZ DCode:=⟨⟨(RepZ.zv:List ByteArray),(RepZ.zv:List ByteArray),(RepZ.zv:List ByteArray),(RepZ.zv:List Int),(RepZ.zv:List DIns)⟩,RepZ.zc ((List ByteArray)×(List ByteArray)×(List ByteArray)×(List Int)×(List DIns)),λw=>RepZ.zr (α:=(List ByteArray)×(List ByteArray)×(List ByteArray)×(List Int)×(List DIns)) w⟩
theorem zmD {w:World} {F:List Nat} {cs:List Value} {x:DCode} (h:rep F w cs x):∃ F0 c0 F1 c1 F2 c2 F3 c3 F4 c4,F=(F0++(F1++(F2++(F3++F4))))∧cs=(c0++(c1++(c2++(c3++c4))))∧rep F0 w c0 x.globals∧rep F1 w c1 x.locks∧rep F2 w c2 x.procs∧rep F3 w c3 x.entry∧rep F4 w c4 x.ins:=by
 obtain ⟨F0,G0,c0,d0,rfl,rfl,h0,h⟩:=h;obtain ⟨F1,G1,c1,d1,rfl,rfl,h1,h⟩:=h;obtain ⟨F2,G2,c2,d2,rfl,rfl,h2,h⟩:=h;obtain ⟨F3,G3,c3,d3,rfl,rfl,h3,h⟩:=h;exact ⟨_,_,_,_,_,_,_,_,_,_,rfl,rfl,h0,h1,h2,h3,h⟩
structure DTouch where
 at_:Int
 global:Int
 write:Bool
 held:Int
theorem DTouch.ext_iff {x y:DTouch}:x=y↔(x.at_=y.at_∧x.global=y.global∧x.write=y.write∧x.held=y.held):=⟨λh=>by rw [h];exact ⟨rfl,rfl,rfl,rfl⟩,λh=>by obtain ⟨h0,h1,h2,h3⟩:=h;cases x;cases y;simp only at h0 h1 h2 h3;simp only [h0,h1,h2,h3]⟩
instance:DecidableEq DTouch:=λx y=>decidable_of_iff (x.at_=y.at_∧x.global=y.global∧x.write=y.write∧x.held=y.held) DTouch.ext_iff.symm
instance:Rep DTouch:=Rep.via λx=>(x.at_,x.global,x.write,x.held)
instance:RepZ DTouch:=⟨⟨(RepZ.zv:Int),(RepZ.zv:Int),(RepZ.zv:Bool),(RepZ.zv:Int)⟩,RepZ.zc (Int×Int×Bool×Int),λw=>RepZ.zr (α:=Int×Int×Bool×Int) w⟩
instance:Flat DTouch:=⟨λh=>Flat.flat (α:=Int×Int×Bool×Int) h⟩
end Go.Sh
namespace Go.Sh
open Rep (rep)
inductive DStmt where
 | mk (kind:Int) (name:ByteArray) (term:DTerm) (body els:List DStmt)
namespace DStmt
def kind:DStmt→Int | .mk k _ _ _ _=>k
def name:DStmt→ByteArray | .mk _ s _ _ _=>s
def term:DStmt→DTerm | .mk _ _ t _ _=>t
def body:DStmt→List DStmt | .mk _ _ _ b _=>b
def els:DStmt→List DStmt | .mk _ _ _ _ e=>e
def tup (t:DStmt):Int×ByteArray×DTerm×List DStmt×List DStmt:=(t.kind,t.name,t.term,t.body,t.els)
end DStmt
theorem DStmt.eta (t:DStmt):DStmt.mk t.kind t.name t.term t.body t.els=t:=by cases t;rfl
theorem DStmt.body_lt {t k:DStmt} (h:k∈t.body):SizeOf.sizeOf k<SizeOf.sizeOf t:=by
 cases t with
 | mk a b c l m=>
   have:k∈l:=h;have:=List.sizeOf_lt_of_mem this;simp only [DStmt.mk.sizeOf_spec];omega
theorem DStmt.els_lt {t k:DStmt} (h:k∈t.els):SizeOf.sizeOf k<SizeOf.sizeOf t:=by
 cases t with
 | mk a b c l m=>
   have:k∈m:=h;have:=List.sizeOf_lt_of_mem this;simp only [DStmt.mk.sizeOf_spec];omega
theorem DStmt.ind {p:DStmt→Prop} (h:∀ t,(∀ k∈t.body,p k)→(∀ k∈t.els,p k)→p t) (t:DStmt):p t:=
  h t (λk hk=>DStmt.ind h k) (λk hk=>DStmt.ind h k)
termination_by SizeOf.sizeOf t
decreasing_by
  · exact DStmt.body_lt hk
  exact DStmt.els_lt hk
def slc (n:Nat) (nl:Prop) (w:World) (F:List Nat) (c:Value) (C:List Nat→List Value→Prop):Prop:=
 ∃ a cap Fi xs,c=.slice a n cap∧n≤cap∧cap≤maxLen∧C Fi xs∧((nl∧F=[])∨∃ b o,a=some ⟨b,o,none⟩∧F=b :: Fi∧w.rangeAt b o xs∧b<w.heap.size)
theorem zrV {n:Nat} {nl:Prop} {w:World} {F:List Nat} {c:Value} {C:List Nat→List Value→Prop} (h:slc n nl w F c C):c.oneCell'=true:=by
 obtain ⟨a,cap,Fi,xs,rfl,_⟩:=h;rfl
theorem zqy {w w':World} {b:Nat} (hb:b<w.heap.size) (h:w'.heap[b]?=w.heap[b]?):b<w'.heap.size:=by
 rcases Nat.lt_or_ge b (Array.size (World.heap w')) with h' | h'
 · exact h'
 rw [Array.getElem?_eq_none h'] at h;simp [Array.getElem?_eq_getElem hb] at h
theorem zpt {n:Nat} {nl:Prop} {w w':World} {F:List Nat} {c:Value} {C C':List Nat→List Value→Prop} (h:slc n nl w F c C) (hk:∀ b∈F,w'.heap[b]?=w.heap[b]?)
   (hC:∀ Fi xs,C Fi xs→(∀ b∈Fi,w'.heap[b]?=w.heap[b]?)→C' Fi xs) (hN:nl→∀ Fi xs,C Fi xs→Fi=[]):slc n nl w' F c C':=by
 obtain ⟨a,cap,Fi,xs,hc,h1,h2,h3,h4⟩:=h;rcases h4 with ⟨hn,rfl⟩ | ⟨b,o,ha,hF,hr,hb⟩
 · exact ⟨a,cap,Fi,xs,hc,h1,h2,hC _ _ h3 (λb hb=>by rw [hN hn _ _ h3] at hb;cases hb),.inl ⟨hn,rfl⟩⟩
 subst hF;have hbb:=hk b (by simp);exact ⟨a,cap,Fi,xs,hc,h1,h2,hC _ _ h3 λc hc=>hk c (by simp [hc]),.inr ⟨b,o,ha,rfl,za2 hr hbb,zqy hb hbb⟩⟩
theorem zva {n:Nat} {nl:Prop} {w:World} {F:List Nat} {c:Value} {C:List Nat→List Value→Prop} (h:slc n nl w F c C) (hC:∀ Fi xs,C Fi xs→∀ b∈Fi,b<w.heap.size):∀ b∈F,b<w.heap.size:=by
 obtain ⟨a,cap,Fi,xs,hc,h1,h2,h3,h4⟩:=h;intro c hm;rcases h4 with ⟨hn,rfl⟩ | ⟨b,o,ha,hF,hr,hb⟩
 · cases hm
 subst hF;rcases List.mem_cons.1 hm with rfl | hm
 · exact hb
 exact hC _ _ h3 c hm
mutual
def zqz:DStmt→List Nat→World→List Value→Prop
  | .mk k s t bs es,F,w,cs=>∃ Ft ct Fb cb Fe ce,F=Ft++(Fb++Fe)∧cs=.int .i64 k :: .string s :: (ct++[cb,ce])∧I64 k∧s.size≤maxLen∧rep Ft w ct t ∧
    slc bs.length (bs=[]) w Fb cb (λFi xs=>zd1 bs Fi w xs)∧slc es.length (es=[]) w Fe ce (λFi xs=>zd1 es Fi w xs)
def zd1:List DStmt→List Nat→World→List Value→Prop
  | [],F,_,xs=>F=[]∧xs=[]
  | y :: ys,F,w,xs=>∃ F1 F2 c1 c2,F=F1++F2∧xs=c1++c2∧zqz y F1 w c1∧zd1 ys F2 w c2
end
theorem zkJ {l:List DStmt} (h:l=[]) {w:World} (Fi:List Nat) (xs:List Value) (hc:zd1 l Fi w xs):Fi=[]:=by
 subst h;rw [zd1] at hc;exact hc.1
theorem zt2 {t:DStmt} {F:List Nat} {w:World} {cs:List Value} (h:zqz t F w cs):cs.length=8:=by
 cases t;rw [zqz] at h;obtain ⟨Ft,ct,Fb,cb,Fe,ce,_,rfl,_,_,ht,_⟩:=h;have:=Rep.len ht;simp only [List.length_cons,List.length_append,List.length_nil,this];rfl
theorem zt3 {t:DStmt} {F:List Nat} {w:World} {cs:List Value} (h:zqz t F w cs):∀ v∈cs,v.oneCell'=true:=by
 cases t;rw [zqz] at h;obtain ⟨Ft,ct,Fb,cb,Fe,ce,_,rfl,_,_,ht,hb,he⟩:=h;intro v hv;simp only [List.mem_cons,List.mem_append,List.not_mem_nil,or_false] at hv;rcases hv with rfl | rfl | hv | rfl | rfl
 · rfl
 · rfl
 · exact Rep.one ht v hv
 · exact zrV hb
 exact zrV he
mutual
theorem zmE:∀ (t:DStmt) {F:List Nat} {w w':World} {cs:List Value},zqz t F w cs→(∀ b∈F,w'.heap[b]?=w.heap[b]?)→zqz t F w' cs
  | .mk k s t bs es,F,w,w',cs,h,hk=>by
    rw [zqz] at h ⊢;obtain ⟨Ft,ct,Fb,cb,Fe,ce,hF,hcs,i1,i2,ht,hb,he⟩:=h;subst hF
    exact ⟨Ft,ct,Fb,cb,Fe,ce,rfl,hcs,i1,i2,Rep.keep ht λb hb=>hk b (by simp [hb]),
      zpt hb (λb hb=>hk b (by simp [hb])) (λFi xs hc hx=>zgD bs hc hx) λh=>zkJ h,
      zpt he (λb hb=>hk b (by simp [hb])) (λFi xs hc hx=>zgD es hc hx) λh=>zkJ h⟩
theorem zgD:∀ (l:List DStmt) {F:List Nat} {w w':World} {cs:List Value},zd1 l F w cs→(∀ b∈F,w'.heap[b]?=w.heap[b]?)→zd1 l F w' cs
  | [],F,w,w',cs,h,_=>by rw [zd1] at h ⊢;exact h
  | y :: ys,F,w,w',cs,h,hk=>by
    rw [zd1] at h ⊢;obtain ⟨F1,F2,c1,c2,rfl,rfl,h1,h2⟩:=h;exact ⟨F1,F2,c1,c2,rfl,rfl,zmE y h1 λb hb=>hk b (by simp [hb]),zgD ys h2 λb hb=>hk b (by simp [hb])⟩
end
mutual
theorem zrW:∀ (t:DStmt) {F:List Nat} {w:World} {cs:List Value},zqz t F w cs→∀ b∈F,b<w.heap.size
  | .mk k s t bs es,F,w,cs,h,c,hm=>by
    rw [zqz] at h;obtain ⟨Ft,ct,Fb,cb,Fe,ce,hF,hcs,i1,i2,ht,hb,he⟩:=h;subst hF;rcases List.mem_append.1 hm with hm | hm
    · exact Rep.lt ht c hm
    rcases List.mem_append.1 hm with hm | hm
    · exact zva hb (λFi xs hc=>zjj bs hc) c hm
    exact zva he (λFi xs hc=>zjj es hc) c hm
theorem zjj:∀ (l:List DStmt) {F:List Nat} {w:World} {cs:List Value},zd1 l F w cs→∀ b∈F,b<w.heap.size
  | [],F,w,cs,h,c,hm=>by rw [zd1] at h;rw [h.1] at hm;cases hm
  | y :: ys,F,w,cs,h,c,hm=>by
    rw [zd1] at h;obtain ⟨F1,F2,c1,c2,rfl,rfl,h1,h2⟩:=h;rcases List.mem_append.1 hm with hm | hm
    · exact zrW y h1 c hm
    exact zjj ys h2 c hm
end
instance:Rep DStmt where
 size:=8
 agg:=true
 rep F w cs x:=zqz x F w cs
 pos:=by decide
 sz h:=by cases h
 len h:=zt2 h
 one h:=zt3 h
 keep h hk:=zmE _ h hk
 lt h:=zrW _ h
theorem zg4 {w:World}:∀ {l:List DStmt} {F:List Nat} {xs:List Value},zd1 l F w xs↔Cells F w xs l
 | [],F,xs=>by rw [zd1];exact Iff.rfl
 | y :: ys,F,xs=>by
   rw [zd1];constructor
   · rintro ⟨F1,F2,c1,c2,h1,h2,h3,h4⟩;exact ⟨F1,F2,c1,c2,h1,h2,h3,zg4.1 h4⟩
   rintro ⟨F1,F2,c1,c2,h1,h2,h3,h4⟩;exact ⟨F1,F2,c1,c2,h1,h2,h3,zg4.2 h4⟩
theorem zlp {w:World} {F:List Nat} {c:Value} {l:List DStmt}:slc l.length (l=[]) w F c (λFi xs=>zd1 l Fi w xs)↔rep F w [c] l:=by
 constructor
 · rintro ⟨a,cap,Fi,xs,rfl,h1,h2,h3,h4⟩
   exact ⟨a,cap,Fi,xs,rfl,h1,h2,zg4.1 h3,h4⟩
 rintro ⟨a,cap,Fi,xs,hc,h1,h2,h3,h4⟩;exact ⟨a,cap,Fi,xs,by simpa using hc,h1,h2,zg4.2 h3,h4⟩
theorem zdQ {w:World} {F:List Nat} {cs:List Value} {l:List DStmt} (h:rep F w cs l):∃ c,cs=[c]:=by
 obtain ⟨a,cap,Fi,xs,rfl,_⟩:=h;exact ⟨_,rfl⟩
theorem zeE {w:World} {F:List Nat} {cs:List Value} {t:DStmt}:rep F w cs t↔rep F w cs t.tup:=by
 obtain ⟨k,s,t,bs,es⟩:=t;show zqz _ F w cs↔_;rw [zqz];constructor
 · rintro ⟨Ft,ct,Fb,cb,Fe,ce,rfl,rfl,i1,i2,ht,hb,he⟩
   exact ⟨[],_,[.int .i64 k],_,rfl,rfl,⟨rfl,rfl,i1⟩,[],_,[.string s],_,rfl,rfl,⟨rfl,rfl,i2⟩,Ft,Fb++Fe,ct,[cb,ce],rfl,rfl,ht,Fb,Fe,[cb],[ce],rfl,rfl,zlp.1 hb,zlp.1 he⟩
 rintro ⟨_,_,_,_,rfl,rfl,⟨rfl,rfl,i1⟩,_,_,_,_,rfl,rfl,⟨rfl,rfl,i2⟩,Ft,_,ct,_,rfl,rfl,ht,Fb,Fe,c1,c2,rfl,rfl,hb,he⟩;obtain ⟨cb,rfl⟩:=zdQ hb;obtain ⟨ce,rfl⟩:=zdQ he;exact ⟨Ft,ct,Fb,cb,Fe,ce,rfl,rfl,i1,i2,ht,zlp.2 hb,zlp.2 he⟩
theorem zrX {w:World} {b o:Nat} {t:DStmt}:At w b o t↔At w b o t.tup:=
 ⟨λ⟨F,cs,h,k⟩=>⟨F,cs,zeE.1 h,k⟩,λ⟨F,cs,h,k⟩=>⟨F,cs,zeE.2 h,k⟩⟩
theorem zpu {w:World} {G:List Nat} {b o:Nat} {t:DStmt}:OAt G w b o t↔OAt G w b o t.tup:=
 ⟨λ⟨cs,h,k⟩=>⟨cs,zeE.1 h,k⟩,λ⟨cs,h,k⟩=>⟨cs,zeE.2 h,k⟩⟩
section
variable {w:World} {b o:Nat} {x:DStmt}
theorem zcy (h:At w b o x):At w b (o+0) x.kind:=zcW (α:=Int) (β:=ByteArray×DTerm×List DStmt×List DStmt) (p:=x.tup) (zrX.1 h)
theorem zwU (h:At w b o x):At w b (o+1) (x.name,x.term,x.body,x.els):=zbj (α:=Int) (β:=ByteArray×DTerm×List DStmt×List DStmt) (p:=x.tup) (zrX.1 h)
theorem zbo (h:At w b o x):At w b (o+1) x.name:=zcW (α:=ByteArray) (β:=DTerm×List DStmt×List DStmt) (p:=(x.name,x.term,x.body,x.els)) (zwU h)
theorem zwV (h:At w b o x):At w b (o+2) (x.term,x.body,x.els):=zbj (α:=ByteArray) (β:=DTerm×List DStmt×List DStmt) (p:=(x.name,x.term,x.body,x.els)) (zwU h)
theorem zdc (h:At w b o x):At w b (o+2) x.term:=zcW (α:=DTerm) (β:=List DStmt×List DStmt) (p:=(x.term,x.body,x.els)) (zwV h)
theorem zwW (h:At w b o x):At w b (o+6) (x.body,x.els):=zbj (α:=DTerm) (β:=List DStmt×List DStmt) (p:=(x.term,x.body,x.els)) (zwV h)
theorem zcU (h:At w b o x):At w b (o+6) x.body:=zcW (α:=List DStmt) (β:=List DStmt) (p:=(x.body,x.els)) (zwW h)
theorem zcz (h:At w b o x):At w b (o+7) x.els:=zbj (α:=List DStmt) (β:=List DStmt) (p:=(x.body,x.els)) (zwW h)
theorem zrY {F0:List Nat} {c0:List Value} (h0:rep F0 w c0 x.kind) {F1:List Nat} {c1:List Value} (h1:rep F1 w c1 x.name) {F2:List Nat} {c2:List Value} (h2:rep F2 w c2 x.term) {F3:List Nat} {c3:List Value} (h3:rep F3 w c3 x.body) {F4:List Nat} {c4:List Value} (h4:rep F4 w c4 x.els) :
   rep (F0++(F1++(F2++(F3++F4)))) w (c0++(c1++(c2++(c3++c4)))) x:=zeE.2 (zaI h0 (zaI h1 (zaI h2 (zaI h3 h4))))
end
theorem Lens.stmt {w:World} {γ:Type} {H:List Nat→World→γ→Prop} {F:List Nat} {b o:Nat} {G:List Nat} {t:DStmt} {upd:DStmt→γ} (h:Lens H F w b o G t upd) :
   Lens H F w b o G t.tup (λp=>upd (.mk p.1 p.2.1 p.2.2.1 p.2.2.2.1 p.2.2.2.2)):=
 ⟨zpu.1 h.here,h.sub,λw' G' y' hc hO hs=>h.back w' G' _ hc (zpu.2 hO) hs⟩
instance:RepZ DStmt:=⟨.mk 0 ByteArray.empty RepZ.zv [] [],RepZ.zc (Int×ByteArray×DTerm×List DStmt×List DStmt),λw=>zeE.2 (RepZ.zr (α:=Int×ByteArray×DTerm×List DStmt×List DStmt) w)⟩
section
variable {γ:Type} {H:List Nat→World→γ→Prop} {F:List Nat} {w:World} {b o:Nat} {G:List Nat} {x:DStmt} {upd:DStmt→γ}
theorem zmF (h:Lens H F w b o G x upd):∃ G1,Lens H F w b (o+1) G1 x.name (λy=>upd (.mk x.kind y x.term x.body x.els)):=by
 obtain ⟨G1,h1⟩:=h.stmt.snd;obtain ⟨G2,h2⟩:=h1.fst;exact ⟨G2,h2⟩
theorem zmG (h:Lens H F w b o G x upd):∃ G1,Lens H F w b (o+6) G1 x.body (λy=>upd (.mk x.kind x.name x.term y x.els)):=by
 obtain ⟨G1,h1⟩:=h.stmt.snd;obtain ⟨G2,h2⟩:=h1.snd;obtain ⟨G3,h3⟩:=h2.snd;obtain ⟨G4,h4⟩:=h3.fst;exact ⟨G4,h4⟩
theorem zir (h:Lens H F w b o G x upd):∃ G1,Lens H F w b (o+7) G1 x.els (λy=>upd (.mk x.kind x.name x.term x.body y)):=by
 obtain ⟨G1,h1⟩:=h.stmt.snd;obtain ⟨G2,h2⟩:=h1.snd;obtain ⟨G3,h3⟩:=h2.snd;obtain ⟨G4,h4⟩:=h3.snd;exact ⟨G4,h4⟩
end
structure DProc where
 name:ByteArray
 body:List DStmt
theorem DProc.ext_iff {x y:DProc}:x=y↔(x.name=y.name∧x.body=y.body):=⟨λh=>by rw [h];exact ⟨rfl,rfl⟩,λh=>by obtain ⟨h0,h1⟩:=h;cases x;cases y;simp only at h0 h1;simp only [h0,h1]⟩
instance:Rep DProc:=Rep.via λx=>(x.name,x.body)
theorem zf4 {w:World} {b o:Nat} {x:DProc} (h:At w b o x):At w b (o+0) x.name:=zcW (α:=ByteArray) (β:=(List DStmt)) (p:=(x.name,x.body)) h
theorem zhL {w:World} {b o:Nat} {x:DProc} (h:At w b o x):At w b (o+1) x.body:=zbj (α:=ByteArray) (β:=(List DStmt)) (p:=(x.name,x.body)) h
instance:RepZ DProc:=⟨⟨(RepZ.zv:ByteArray),(RepZ.zv:List DStmt)⟩,RepZ.zc (ByteArray×(List DStmt)),λw=>RepZ.zr (α:=ByteArray×(List DStmt)) w⟩
structure DProg where
 globals:List ByteArray
 locks:List ByteArray
 procs:List DProc
theorem DProg.ext_iff {x y:DProg}:x=y↔(x.globals=y.globals∧x.locks=y.locks∧x.procs=y.procs):=⟨λh=>by rw [h];exact ⟨rfl,rfl,rfl⟩,λh=>by obtain ⟨h0,h1,h2⟩:=h;cases x;cases y;simp only at h0 h1 h2;simp only [h0,h1,h2]⟩
instance:Rep DProg:=Rep.via λx=>(x.globals,x.locks,x.procs)
theorem ze3 {w:World} {b o:Nat} {x:DProg} (h:At w b o x):At w b (o+0) x.globals:=zcW (α:=List ByteArray) (β:=(List ByteArray)×(List DProc)) (p:=(x.globals,x.locks,x.procs)) h
theorem zf5 {w:World} {b o:Nat} {x:DProg} (h:At w b o x):At w b (o+1) x.locks:=zcW (α:=List ByteArray) (β:=(List DProc)) (p:=(x.locks,x.procs)) (zbj (α:=List ByteArray) (β:=(List ByteArray)×(List DProc)) (p:=(x.globals,x.locks,x.procs)) h)
theorem zbN {w:World} {b o:Nat} {x:DProg} (h:At w b o x):At w b (o+2) x.procs:=zbj (α:=List ByteArray) (β:=(List DProc)) (p:=(x.locks,x.procs)) (zbj (α:=List ByteArray) (β:=(List ByteArray)×(List DProc)) (p:=(x.globals,x.locks,x.procs)) h)
instance:RepZ DProg:=⟨⟨(RepZ.zv:List ByteArray),(RepZ.zv:List ByteArray),(RepZ.zv:List DProc)⟩,RepZ.zc ((List ByteArray)×(List ByteArray)×(List DProc)),λw=>RepZ.zr (α:=(List ByteArray)×(List ByteArray)×(List DProc)) w⟩
section
variable {w:World} {lo hi:Nat}
theorem ze4 {k n:Int} {s:ByteArray} {v:Value} {l:List DTerm} (hk:I64 k) (hn:I64 n) (hs:s.size≤maxLen) (h:OwnI lo hi w v l):OwnI lo hi w (.agg #[.int .i64 k,.int .i64 n,.string s,v]) (DTerm.mk k n s l):=by
 obtain ⟨F,⟨⟨cs,hr,rfl⟩,hnd,hw⟩,hF⟩:=h;obtain ⟨a,cap,Fi,xs,rfl,h1,h2,hc,h4⟩:=hr;exact ⟨F,⟨⟨_,zrU (x:=.mk k n s l) (F0:=[]) (F1:=[]) (F2:=[]) ⟨rfl,rfl,hk⟩ ⟨rfl,rfl,hn⟩ ⟨rfl,rfl,hs⟩ ⟨a,cap,Fi,xs,rfl,h1,h2,hc,h4⟩,rfl⟩,hnd,hw⟩,hF⟩
theorem zf6 {v:Value} {t:DTerm} (h:Is w v t):∃ a cap,v=.agg #[.int .i64 t.kind,.int .i64 t.num,.string t.name,.slice a t.kids.length cap]:=by
 obtain ⟨F,cs,hr,rfl⟩:=h;obtain ⟨k,n,s,ks⟩:=t;rw [show rep F w cs (DTerm.mk k n s ks)=zoi (.mk k n s ks) F w cs from rfl,zoi] at hr;obtain ⟨a,cap,Fi,xs,rfl,_⟩:=hr;exact ⟨a,cap,rfl⟩
theorem zrZ {k:Int} {s:ByteArray} {t:DTerm} {vb ve:Value} {bs es:List DStmt} {tc:Array Value} {l0 h0 l1 h1 l2 h2:Nat} (hk:I64 k) (hs:s.size≤maxLen) (ht:OwnI l0 h0 w (.agg tc) t) (hb:OwnI l1 h1 w vb bs) (he:OwnI l2 h2 w ve es)
   (d01:h0≤l1∨h1≤l0) (d02:h0≤l2∨h2≤l0) (d12:h1≤l2∨h2≤l1) (b0:lo≤l0∧h0≤hi) (b1:lo≤l1∧h1≤hi) (b2:lo≤l2∧h2≤hi) :
   OwnI lo hi w (.agg ([Value.int .i64 k,Value.string s]++tc.toList++[vb,ve]).toArray) (DStmt.mk k s t bs es):=by
 obtain ⟨F0,⟨⟨c0,r0,e0⟩,n0,w0⟩,B0⟩:=ht;obtain ⟨F1,⟨⟨c1,r1,e1⟩,n1,w1⟩,B1⟩:=hb;obtain ⟨F2,⟨⟨c2,r2,e2⟩,n2,w2⟩,B2⟩:=he
 have ht0:tc.toList=c0:=by
   simp only [mkv,Rep.agg,cond_true,Value.agg.injEq] at e0;rw [e0]
 obtain ⟨cb,rfl⟩:=zdQ r1;obtain ⟨ce,rfl⟩:=zdQ r2;simp only [mkv,Rep.agg,cond_false,List.headD_cons] at e1 e2;subst e1 e2;refine ⟨F0++(F1++F2),⟨⟨_,zrY (x:=.mk k s t bs es) (F0:=[]) (F1:=[]) ⟨rfl,rfl,hk⟩ ⟨rfl,rfl,hs⟩ r0 r1 r2,?_⟩,?_,w0.append (w1.append w2)⟩,λx hx=>?_⟩
 · rw [ht0];simp [mkv,Rep.agg,DStmt.kind,DStmt.name]
 · rw [List.nodup_append,List.nodup_append]
   refine ⟨n0,⟨n1,n2,λp hp q hq e=>?_⟩,λp hp q hq e=>?_⟩
   · subst e;have:=B1 p hp;have:=B2 p hq;omega
   subst e;have:=B0 p hp;rcases List.mem_append.1 hq with hq | hq
   · have:=B1 p hq;omega
   have:=B2 p hq;omega
 rcases List.mem_append.1 hx with hx | hx
 · have:=B0 x hx;omega
 rcases List.mem_append.1 hx with hx | hx
 · have:=B1 x hx;omega
 have:=B2 x hx;omega
end
end Go.Sh
namespace Go.Sh
open Rep (rep)
def zn3 (x:Int):Int:=IntKind.i64.wrap x
def zqA (a b:Int):Int:=zn3 ((BitVec.ofInt 64 a &&& BitVec.ofInt 64 b).toNat:Nat)
def zxv (a b:Int):Int:=zn3 ((BitVec.ofInt 64 a ^^^ BitVec.ofInt 64 b).toNat:Nat)
def zwX (a:Int) (n:Nat):Int:=a.fdiv (2^(min n 64))
theorem zvL (x:Int):I64 (zn3 x):=by
 have e:zn3 x=if x%18446744073709551616≥9223372036854775808 then x%18446744073709551616-18446744073709551616 else x%18446744073709551616:=by
   simp [zn3,IntKind.wrap,IntKind.signed,IntKind.bits]
 unfold I64;rw [e];split<;>omega
theorem zr0 {x:Int} (h:I64 x):zn3 x=x:=IntWalk.i64_in _ h
theorem zlq (a:Int) {n:Nat} (hn:n<9223372036854775808):0≤zqA a n∧zqA a n≤n:=by
 have h1:(BitVec.ofInt 64 a &&& BitVec.ofInt 64 (n:Int)).toNat≤n:=by
   rw [BitVec.toNat_and];refine Nat.le_trans Nat.and_le_right ?_;rw [BitVec.ofInt_natCast,BitVec.toNat_ofNat,Nat.mod_eq_of_lt (by omega)];exact Nat.le_refl _
 unfold zqA;rw [zr0 (by unfold I64;omega)];omega
section
variable {P:Program} {w:World} {K:Value→Prop} {t:TypeId} {x y:Operand} {a b:Int}
theorem zr1 (k:K (.int .i64 (zn3 (a+b)))):RD P (bin .add t x y (.int .i64 a) (.int .i64 b)) w K:=
 za3 (λw' _=>by simp [bin,eqGuard,binOp,Op.intArith,zn3]) k
theorem zvM (k:K (.int .i64 (zn3 (a*b)))):RD P (bin .mul t x y (.int .i64 a) (.int .i64 b)) w K:=
 za3 (λw' _=>by simp [bin,eqGuard,binOp,Op.intArith,zn3]) k
theorem zok (k:K (.int .i64 (zqA a b))):RD P (bin .and t x y (.int .i64 a) (.int .i64 b)) w K:=by
 refine za3 (λw' _=>?_) k;show (do eqGuard .and t x y (.int .i64 a) (.int .i64 b);binOp .and t (.int .i64 a) (.int .i64 b):Sem Value).run P w'=_;simp only [eqGuard,binOp,Op.intBits];rfl
theorem zvN (k:K (.int .i64 (zxv a b))):RD P (bin .xor t x y (.int .i64 a) (.int .i64 b)) w K:=by
 refine za3 (λw' _=>?_) k;show (do eqGuard .xor t x y (.int .i64 a) (.int .i64 b);binOp .xor t (.int .i64 a) (.int .i64 b):Sem Value).run P w'=_;simp only [eqGuard,binOp,Op.intBits];rfl
theorem zr2 {n:Nat} {ku:IntKind} (k:K (.int .i64 (zwX a n))):RD P (bin .shr t x y (.int .i64 a) (.int ku (n:Int))) w K:=by
 refine za3 (λw' _=>?_) k;have e0:¬((n:Int)<0):=by omega
 show (do eqGuard .shr t x y (.int .i64 a) (.int ku (n:Int));binOp .shr t (.int .i64 a) (.int ku (n:Int)):Sem Value).run P w'=_;simp only [eqGuard,binOp,Op.shift,e0,if_false,Int.toNat_natCast];rfl
theorem zr3 {src dst:TypeId} {n:Nat} (hs:(P.underlying src).isSome=true) (hd:P.underlying dst=some (.int .i64)) (hn:n<256) (k:K (.int .i64 (n:Int))):RD P (convert src dst (.int .u8 (n:Int))) w K:=by
 refine za3 (λw' _=>?_) k;obtain ⟨d,hd'⟩:=Option.isSome_iff_exists.mp hs;have:IntKind.i64.wrap (n:Int)=n:=IntWalk.i64_in _ (by omega);simp [convert,run_underlying hd',run_underlying hd,Conv.intToInt,this]
end
theorem zr4 {a n:Int} (h0:0≤a) (hn:0<n):0≤a.tmod n∧a.tmod n<n:=by
 rw [Int.tmod_eq_emod_of_nonneg h0];exact ⟨Int.emod_nonneg _ (by omega),Int.emod_lt_of_pos _ hn⟩
end Go.Sh
namespace Go.Proofs.YtakjaofncelghaaGreat
open Go Go.Sh Go.Proofs
open Rep (rep)
def extL:List Nat:=[0,1,297,298,299,300,301,302,303,304,305,306,307,308,309,310,311,312]
set_option maxRecDepth 100000 in
theorem zwY:((List.range 313).all λf=>extL.elem f || zeA Tryz.prog f)=true:=by kernel_rfl
theorem ent:∀ f,f<313→extL.elem f=false→zeA Tryz.prog f=true:=λf hf hx=>by
 have:=List.all_eq_true.1 zwY f (List.mem_range.2 hf);rw [hx,Bool.false_or] at this;exact this
theorem mixed:Tryz.prog.follows .mixedOrders=true:=by kernel_rfl
end Go.Proofs.YtakjaofncelghaaGreat
namespace Go.Proofs.YtakjaofncelghaaGreat
open Go Go.Sh Go.Proofs
abbrev VW:=Value→World→Prop
noncomputable abbrev tp:Program:=Tryz.prog
abbrev T0:Operand:=.tmp 0
abbrev U0:Operand:=.const undef
abbrev ln (t y:Nat) (x:Value):Sem Value:=Builtin.len_ #[t] y [x].toArray
theorem zbG {u:Nat→Value} {a:Nat} {x:Value} (h:[a].map u=[x]):u a=x:=by simpa using h
theorem zd4 {u:Nat→Value} {a b:Nat} {x y:Value} (h:[a,b].map u=[x,y]):u a=x∧u b=y:=by simpa using h
theorem zxw {u:Nat→Value} {a b c:Nat} {x y z:Value} (h:[a,b,c].map u=[x,y,z]):u a=x∧u b=y∧u c=z:=by simpa using h
abbrev iV (x:Int):Value:=.int .i64 x
abbrev cL (f:Nat) (a:List Value) (w:World) (R:Value→World→Prop):Prop:=CALL tp f a w R
abbrev rD (m:Sem Value) (w:World) (K:Value→Prop):Prop:=RD tp m w K
abbrev oP (m:Sem Value) (w:World) (K:Value→World→Prop):Prop:=OP tp m w K
abbrev rL (t:Nat) (x:Value) (w:World) (K:Value→Prop):Prop:=RD tp (Instr.loadAt t x) w K
abbrev rF (t:Nat) (x:Value) (i:Nat) (w:World) (K:Value→Prop):Prop:=RD tp (Instr.fieldAt t x i) w K
abbrev rX (t:Nat) (x i:Value) (w:World) (K:Value→Prop):Prop:=RD tp (Instr.indexAt t x i) w K
abbrev rN (t y:Nat) (x:Value) (w:World) (K:Value→Prop):Prop:=RD tp (ln t y x) w K
abbrev rC (a b:Value) (w:World) (K:Value→Prop):Prop:=RD tp (bin .lss 3 T0 T0 a b) w K
abbrev rA (a b:Value) (w:World) (K:Value→Prop):Prop:=RD tp (bin .add 3 T0 U0 a b) w K
abbrev rB (o:BinOp) (t:Nat) (x y:Operand) (a b:Value) (w:World) (K:Value→Prop):Prop:=RD tp (bin o t x y a b) w K
abbrev oS (t:Nat) (x v:Value) (w:World) (K:World→Prop):Prop:=OPU tp (Instr.storeAt t x v) w K
abbrev oU (m:Sem Unit) (w:World) (K:World→Prop):Prop:=OPU tp m w K
abbrev rE (x:Value) (i:Nat) (w:World) (K:Value→Prop):Prop:=RD tp (Instr.extract x i) w K
def kf (j:List (Nat×Nat×List Nat)) (l:List (Nat×Nat×List Nat)) (d:List (Nat×List Nat×Nat)):Cfg:=⟨extL,j,l,d,[],[],[]⟩
theorem zaB {P:Program} {w:World} {K:Value→Prop} {t:TypeId} {x y:Operand} {n:Nat} (k:K (.int .i64 ((n+1:Nat):Int))) (h:n<9223372036854775807:=by omega):RD P (bin .add t x y (.int .i64 (n:Int)) (.int .i64 1)) w K:=zwQ h k
abbrev vF:Value:=.bool false
abbrev vT:Value:=.bool true
abbrev aL (t:Nat):Sem Value:=Instr.alloc t true (.tuple #[])
abbrev aP (t:Nat) (a b:Value):Sem Value:=Builtin.append_ #[t,t] t [a,b].toArray
abbrev bS (t:Nat) (a:Value):Sem Value:=Instr.buildSlice t 1 #[(0,a)]
abbrev oX (t:Nat) (x:Value) (w:World) (K:Value→World→Prop):Prop:=OP tp (Instr.box t x) w K
abbrev rI (a:Value) (w:World) (K:Value→Prop):Prop:=RD tp (bin .add 3 T0 U0 a (.int .i64 1)) w K
abbrev rT (a:Value) (w:World) (K:Value→Prop):Prop:=RD tp (Op.unary .not a) w K
abbrev rQ (a b:Value) (w:World) (K:Value→Prop):Prop:=RD tp (bin .eql 3 T0 U0 a b) w K
theorem co {g:Cfg} {f:FuncId} {fn:Func} {args:List Value} {w:World} {R:VW} {F:Prop} (hf:tp.funcs[f]?=some fn) (h:F) (hl:args.length.ble fn.ntmps=true:=by kernel_rfl) (hok:okF g 313 fn=true:=by kernel_rfl) (e:vcF tp g fn args w R=F:=by kernel_rfl) (hg:g.ext=extL:=by rfl):CALL tp f args w R:=
 zvI (hg▸ent) mixed hf (Nat.le_of_ble_eq_true hl) hok (e▸h)
def F96 (a0:Value) (w:World) (R:VW):Prop:=
 rB .eql 25 T0 U0 a0 (Value.slice none 0 0) w λx4=>
 BR x4
 (R (Value.slice none 0 0) w)
 (oP (Instr.buildSlice 25 0 #[]) w λx5 w=>
 oP (aP 25 x5 a0) w λx7 w=>
 R x7 w)
theorem F96_call {a0 w R} (h:F96 a0 w R):cL 96 [a0] w R:=co (g:=(kf [] [] [])) Tryz.func96 h
theorem zt4:tyI tp 3=some (1,8,false):=by kernel_rfl
theorem zwZ:(tp.info? 3).map (λi=>(i.zero.map (·.cells.size)))=some (some 1):=by kernel_rfl
theorem zqB:tp.underlying 25=some (.slice 3):=by kernel_rfl
def cnt (k:Int) (n:Nat):List Int:=(List.range n).map λi:Nat=>k+(i:Int)
theorem zpv {w w0:World} {v:Value} {l:List Int} (h:Is w0 v l) (hx:Ext w0 w) (hn:l.length≤1073741824) :
   CALL tp 96 [v] w λr w'=>Ext w w'∧Own w.heap.size w' r l:=by
 refine F96_call ?_;unfold F96;obtain ⟨a,cap,Fi,xs,rfl,h1,h2,hc,h4⟩:=zcY h;refine ziq zqB ?_;refine zcd (λhnil=>?_) (λhnn=>?_)
 · have:l=[]:=by
     rcases h4 with h4 | ⟨b,o,ha,_⟩
     · exact h4
     subst ha;simp at hnil
   subst this;exact ⟨Ext.refl w,zje rfl⟩
 refine zg2 (α:=Int) zqB zt4 λa1 w1 hx1 hr1=>?_;refine zlo zqB zt4 zwZ hr1 h (hx.t hx1) hx1.size (by omega) λv2 w2 hx2 hr2=>?_;exact ⟨hx1.t hx2,hr2.own⟩
theorem u2:tp.underlying 2=some (TypeDesc.int IntKind.i64):=by kernel_rfl
theorem z2:zbX tp 2=true:=by kernel_rfl
theorem ty3:tyI tp 3=some (1,8,false):=by kernel_rfl
theorem u3:tp.underlying 3=some (TypeDesc.int IntKind.i64):=by kernel_rfl
theorem z3:zbX tp 3=true:=by kernel_rfl
theorem zc3:(tp.info? 3).map (λi=>(i.zero.map (·.cells.size)))=some (some 1):=by kernel_rfl
theorem ty4:tyI tp 4=some (1,1,false):=by kernel_rfl
theorem u4:tp.underlying 4=some TypeDesc.bool:=by kernel_rfl
theorem z4:zbX tp 4=true:=by kernel_rfl
theorem ty5:tyI tp 5=some (1,1,false):=by kernel_rfl
theorem u5:tp.underlying 5=some (TypeDesc.int IntKind.u8):=by kernel_rfl
theorem z5:zbX tp 5=true:=by kernel_rfl
theorem u6:tp.underlying 6=some (TypeDesc.int IntKind.u8):=by kernel_rfl
theorem ty9:tyI tp 9=some (1,16,false):=by kernel_rfl
theorem u9:tp.underlying 9=some TypeDesc.string:=by kernel_rfl
theorem z9:zbX tp 9=true:=by kernel_rfl
theorem zc9:(tp.info? 9).map (λi=>(i.zero.map (·.cells.size)))=some (some 1):=by kernel_rfl
theorem u10:tp.underlying 10=some TypeDesc.string:=by kernel_rfl
theorem u11:tp.underlying 11=some TypeDesc.string:=by kernel_rfl
theorem u12:tp.underlying 12=some (TypeDesc.int IntKind.u64):=by kernel_rfl
theorem u21:tp.underlying 21=some (TypeDesc.int IntKind.i32):=by kernel_rfl
theorem zxQ:tyI tp 22=some (1,24,false):=by kernel_rfl
theorem u22:tp.underlying 22=some (TypeDesc.slice 5):=by kernel_rfl
theorem z22:zbX tp 22=true:=by kernel_rfl
theorem zc0:tyI tp 24=some (1,24,false):=by kernel_rfl
theorem u24:tp.underlying 24=some (TypeDesc.slice 9):=by kernel_rfl
theorem z24:zbX tp 24=true:=by kernel_rfl
theorem zaK:tyI tp 25=some (1,24,false):=by kernel_rfl
theorem u25:tp.underlying 25=some (TypeDesc.slice 3):=by kernel_rfl
theorem z25:zbX tp 25=true:=by kernel_rfl
theorem zt5:(tp.info? 25).map (λi=>(i.zero.map (·.cells.size)))=some (some 1):=by kernel_rfl
theorem zdn:tyI tp 26=some (1,24,false):=by kernel_rfl
theorem u26:tp.underlying 26=some (TypeDesc.slice 118):=by kernel_rfl
theorem zcv:tyI tp 28=some (5,120,true):=by kernel_rfl
theorem zvO:zcu tp 28=some [.slice none 0 0,.slice none 0 0,.slice none 0 0,.slice none 0 0,.slice none 0 0]:=by kernel_rfl
theorem zdR:zd0 tp 28 0=some 0:=by kernel_rfl
theorem zdD:zd0 tp 28 1=some 1:=by kernel_rfl
theorem zdd:zd0 tp 28 2=some 2:=by kernel_rfl
theorem za7:zd0 tp 28 3=some 3:=by kernel_rfl
theorem zaR:zd0 tp 28 4=some 4:=by kernel_rfl
theorem zd5:tyI tp 33=some (1,24,false):=by kernel_rfl
theorem u33:tp.underlying 33=some (TypeDesc.slice 25):=by kernel_rfl
theorem zcT:tyI tp 36=some (3,72,true):=by kernel_rfl
theorem zxR:zcu tp 36=some [.slice none 0 0,.slice none 0 0,.slice none 0 0]:=by kernel_rfl
theorem zel:zd0 tp 36 0=some 0:=by kernel_rfl
theorem zc2:zd0 tp 36 1=some 1:=by kernel_rfl
theorem zaW:zd0 tp 36 2=some 2:=by kernel_rfl
theorem z55:zbX tp 55=true:=by kernel_rfl
theorem u68:tp.underlying 68=some (TypeDesc.slice 112):=by kernel_rfl
theorem u70:tp.underlying 70=some (TypeDesc.slice 110):=by kernel_rfl
theorem z70:zbX tp 70=true:=by kernel_rfl
theorem u77:tp.underlying 77=some (TypeDesc.int IntKind.u64):=by kernel_rfl
theorem z77:zbX tp 77=true:=by kernel_rfl
theorem zhF:tyI tp 85=some (1,24,false):=by kernel_rfl
theorem u85:tp.underlying 85=some (TypeDesc.slice 4):=by kernel_rfl
theorem z85:zbX tp 85=true:=by kernel_rfl
theorem zx5:(tp.info? 85).map (λi=>(i.zero.map (·.cells.size)))=some (some 1):=by kernel_rfl
theorem zol:tyI tp 90=some (1,24,false):=by kernel_rfl
theorem u90:tp.underlying 90=some (TypeDesc.slice 160):=by kernel_rfl
theorem zmH:tyI tp 92=some (3,72,true):=by kernel_rfl
theorem zxS:zcu tp 92=some [.slice none 0 0,.slice none 0 0,.slice none 0 0]:=by kernel_rfl
theorem zkK:zd0 tp 92 0=some 0:=by kernel_rfl
theorem zmI:zd0 tp 92 1=some 1:=by kernel_rfl
theorem zem:zd0 tp 92 2=some 2:=by kernel_rfl
theorem zvb:zd0 tp 99 0=some 0:=by kernel_rfl
theorem zpw:zd0 tp 99 1=some 1:=by kernel_rfl
theorem zpx:zd0 tp 99 2=some 2:=by kernel_rfl
theorem zcK:zd0 tp 101 0=some 0:=by kernel_rfl
theorem zom:zd0 tp 101 1=some 5:=by kernel_rfl
theorem zon:zd0 tp 101 2=some 6:=by kernel_rfl
theorem zoo:zd0 tp 101 3=some 7:=by kernel_rfl
theorem zop:zd0 tp 101 4=some 8:=by kernel_rfl
theorem zr5:zd0 tp 101 5=some 9:=by kernel_rfl
theorem zr6:zd0 tp 101 6=some 10:=by kernel_rfl
theorem zwF:tp.underlying 106=some (TypeDesc.slice 108):=by kernel_rfl
theorem zoq:tyI tp 108=some (1,8,false):=by kernel_rfl
theorem zmJ:tyI tp 110=some (3,24,true):=by kernel_rfl
theorem zxT:zbX tp 110=true:=by kernel_rfl
theorem zw0:(tp.info? 110).map (λi=>(i.zero.map (·.cells.size)))=some (some 3):=by kernel_rfl
theorem zxx:zcu tp 110=some [.int .i64 0,.int .i64 0,.int .i64 0]:=by kernel_rfl
theorem zlr:zd0 tp 110 0=some 0:=by kernel_rfl
theorem zls:zd0 tp 110 1=some 1:=by kernel_rfl
theorem zr7:zd0 tp 110 2=some 2:=by kernel_rfl
theorem zdU:tyI tp 112=some (2,16,true):=by kernel_rfl
theorem zxU:zbX tp 112=true:=by kernel_rfl
theorem zw1:(tp.info? 112).map (λi=>(i.zero.map (·.cells.size)))=some (some 2):=by kernel_rfl
theorem zt6:zcu tp 112=some [.int .i64 0,.int .i64 0]:=by kernel_rfl
theorem zjk:zd0 tp 112 0=some 0:=by kernel_rfl
theorem zjl:zd0 tp 112 1=some 1:=by kernel_rfl
theorem zdj:tyI tp 114=some (1,24,false):=by kernel_rfl
theorem zgq:tp.underlying 114=some (TypeDesc.slice 116):=by kernel_rfl
theorem za4:tyI tp 116=some (4,56,true):=by kernel_rfl
theorem zxy:zbX tp 116=true:=by kernel_rfl
theorem zxz:(tp.info? 116).map (λi=>(i.zero.map (·.cells.size)))=some (some 4):=by kernel_rfl
theorem zxA:tp.underlying 116=some (TypeDesc.struct (Array.mk [Field.mk "Kind" 3 0 false "" "" 0,Field.mk "Num" 3 1 false "" "" 8,Field.mk "Name" 9 2 false "" "" 16,Field.mk "Kids" 114 3 false "" "" 32])):=by kernel_rfl
theorem zqC:zcu tp 116=some [.int .i64 0,.int .i64 0,.string ByteArray.empty,.slice none 0 0]:=by kernel_rfl
theorem zcZ:zd0 tp 116 0=some 0:=by kernel_rfl
theorem zdF:zd0 tp 116 1=some 1:=by kernel_rfl
theorem zda:zd0 tp 116 2=some 2:=by kernel_rfl
theorem zbi:zd0 tp 116 3=some 3:=by kernel_rfl
theorem zbm:tyI tp 118=some (7,80,true):=by kernel_rfl
theorem zx6:zbX tp 118=true:=by kernel_rfl
theorem zxB:(tp.info? 118).map (λi=>(i.zero.map (·.cells.size)))=some (some 7):=by kernel_rfl
theorem zhM:zcu tp 118=some [.int .i64 0,.int .i64 0,.int .i64 0,.int .i64 0,.string ByteArray.empty,.slice none 0 0,.int .i64 0]:=by kernel_rfl
theorem za6:zd0 tp 118 0=some 0:=by kernel_rfl
theorem zaZ:zd0 tp 118 1=some 1:=by kernel_rfl
theorem zdo:zd0 tp 118 2=some 2:=by kernel_rfl
theorem zcC:zd0 tp 118 3=some 6:=by kernel_rfl
theorem zwG:tp.underlying 138=some (TypeDesc.slice 85):=by kernel_rfl
theorem zor:zd0 tp 157 0=some 0:=by kernel_rfl
theorem zgE:zd0 tp 157 1=some 3:=by kernel_rfl
theorem zdp:tyI tp 158=some (1,24,false):=by kernel_rfl
theorem ze5:tp.underlying 158=some (TypeDesc.slice 166):=by kernel_rfl
theorem zmK:tyI tp 160=some (2,40,true):=by kernel_rfl
theorem zx7:zbX tp 160=true:=by kernel_rfl
theorem zxC:(tp.info? 160).map (λi=>(i.zero.map (·.cells.size)))=some (some 2):=by kernel_rfl
theorem zlt:zd0 tp 160 0=some 0:=by kernel_rfl
theorem zos:zd0 tp 160 1=some 1:=by kernel_rfl
theorem zbO:tyI tp 166=some (8,128,true):=by kernel_rfl
theorem zwH:zbX tp 166=true:=by kernel_rfl
theorem zqD:(tp.info? 166).map (λi=>(i.zero.map (·.cells.size)))=some (some 8):=by kernel_rfl
theorem zr8:zcu tp 166=some [.int .i64 0,.string ByteArray.empty,.int .i64 0,.int .i64 0,.string ByteArray.empty,.slice none 0 0,.slice none 0 0,.slice none 0 0]:=by kernel_rfl
theorem zeR:zd0 tp 166 0=some 0:=by kernel_rfl
theorem zcL:zd0 tp 166 1=some 1:=by kernel_rfl
theorem zfH:zd0 tp 166 2=some 2:=by kernel_rfl
theorem zdV:zd0 tp 166 3=some 6:=by kernel_rfl
theorem zdq:zd0 tp 166 4=some 7:=by kernel_rfl
theorem zhN:zd0 tp 200 1=some 5:=by kernel_rfl
theorem zfq:zd0 tp 200 2=some 6:=by kernel_rfl
theorem zlu:zd0 tp 200 3=some 7:=by kernel_rfl
theorem zr9 {P:Program} {w:World} {K:Value→Prop} {t:TypeId} {x y:Operand} {a b:Bool} (ht:P.underlying t=some .bool) (k:K (.bool (decide (a≠b)))):RD P (bin .neq t x y (.bool a) (.bool b)) w K:=
 za3 (λw' _=>by
   have:=run_neq_bool (P:=P) w' t a b ht;cases a<;>cases b<;>simp_all [bin,eqGuard]) k
def sm {α:Type} (f:α→Nat) (l:List α):Nat:=(l.map f).sum
theorem zw2 {α:Type} (f:α→Nat) {l:List α} {x:α} (h:x∈l):f x≤sm f l:=by
 unfold sm
 induction l with
 | nil=>cases h
 | cons y l ih=>
   rw [List.map_cons,List.sum_cons];rcases List.mem_cons.1 h with rfl | h
   · omega
   have:=ih h;omega
def F151 (a0 a1 a2:Value) (w:World) (R:VW):Prop:=
 rB .geq 3 T0 T0 a0 a1 w λx9=>
 BR x9
 (rB .leq 3 T0 T0 a0 a2 w λx13=>
 R x13 w)
 (R vF w)
theorem F151_call {a0 a1 a2 w R} (h:F151 a0 a1 a2 w R):cL 151 [a0,a1,a2] w R:=co (g:=(kf [] [] [])) Tryz.func151 h
theorem l01In_ok {w:World} {a:Int} {b:Int} {c:Int}    :
   CALL tp 151 [.int .i64 a,.int .i64 b,.int .i64 c] w λr w'=>Ext w w'∧(r=.bool (decide (b≤a∧a≤c))):=by
 refine F151_call ?_;unfold F151;refine zbW ?_;refine br (λc1=>?_) (λc1=>?_)
 · refine zdZ ?_
   refine ⟨Ext.refl w,?_⟩;simp [c1]
 refine ⟨Ext.refl w,?_⟩;simp [c1]
def zcH (s:DState) (t:Int):Int:=if h:0≤t∧t.toNat<s.stacks.length then (s.stacks[t.toNat]'h.2).getLastD (-1) else -1
theorem zjm {l:List Int} (h:l≠[]) (hi:((l.length:Int)-1).toNat<l.length):l[((l.length:Int)-1).toNat]'hi=l.getLastD (-1):=by
 have e:((l.length:Int)-1).toNat=l.length-1:=by omega
 simp only [e];rw [List.getLastD_eq_getLast?,List.getLast?_eq_getElem?,List.getElem?_eq_getElem (by omega)];rfl
def F159 (a0 a1:Value) (w:World) (R:VW):Prop:=
 oX 36 a0 w λx2 w=>
 rF 36 x2 2 w λx6=>
 rL 33 x6 w λx7=>
 rN 33 3 x7 w λx8=>
 rB .sub 3 T0 U0 x8 (iV 1) w λx9=>
 cL 151 [a1,(iV 0),x9] w λx10 w=>
 rT x10 w λx11=>
 BR x11
 (R (iV (-1)) w)
 (rF 36 x2 2 w λx13=>
 rL 33 x13 w λx14=>
 rX 33 x14 a1 w λx16=>
 rL 25 x16 w λx17=>
 rN 25 3 x17 w λx18=>
 rQ x18 (iV 0) w λx19=>
 BR x19
 (R (iV (-1)) w)
 ((λw=>rF 36 x2 2 w λx21=>
 rL 33 x21 w λx22=>
 rX 33 x22 a1 w λx24=>
 rL 25 x24 w λx25=>
 rF 36 x2 2 w λx26=>
 rL 33 x26 w λx27=>
 rX 33 x27 a1 w λx29=>
 rL 25 x29 w λx30=>
 rN 25 3 x30 w λx31=>
 rB .sub 3 T0 U0 x31 (iV 1) w λx32=>
 rX 25 x25 x32 w λx33=>
 rL 3 x33 w λx34=>
 R x34 w) (World.drew1 w)))
theorem F159_call {a0 a1 w R} (h:F159 a0 a1 w R):cL 159 [a0,a1] w R:=co (g:=(kf [] [] [(3,[0,1,2,3,4,5,6,7,8,9,10,11,12,13,14],0)])) Tryz.func159 h
theorem zot {w:World} {v0:Value} {W0:World} {s:DState} {t:Int}  (h0:Is W0 v0 s) (e0:Ext W0 w)  :
   CALL tp 159 [v0,.int .i64 t] w λr w'=>Ext w w'∧(r=.int .i64 (zcH s t)):=by
 refine F159_call ?_;unfold F159;refine zao zcT rfl h0 e0 λw1_ η1 hA2 hV2=>?_;refine zaa zaW ?_;refine zab zd5 (zay hA2) (Ext.refl w1_) λv7 h7=>?_;have hln8:=zah h7;refine zae u33 h7 ?_;refine za0 (by unfold I64;omega) ?_;refine (l01In_ok ).mono ?_;rintro _ w2_ ⟨η2,rfl⟩;refine zav ?_;refine br (λc1=>?_) (λc1=>?_)
 · refine ⟨(η1.t η2),?_⟩
   unfold zcH;rw [dif_neg (by omega)]
 refine zaa zaW ?_;refine zab zd5 (zay hA2) η2 λv14 h14=>?_;refine zax u33 zaK h14 (by omega) (by omega) λb16 o16 h16=>?_;refine zab zaK h16 η2 λv17 h17=>?_;have hln18:=zah h17;refine zae u25 h17 ?_;refine zag ?_;refine br (λc2=>?_) (λc2=>?_)
 · refine ⟨(η1.t η2),?_⟩
   unfold zcH;rw [dif_pos (by omega)];have:s.stacks[t.toNat]'(by omega)=[]:=List.eq_nil_of_length_eq_zero (by omega);rw [this];rfl
 have η3:=zai w2_;refine zaa zaW ?_;refine zab zd5 (zay hA2) (η2.t η3) λv22 h22=>?_;refine zax u33 zaK h22 (by omega) (by omega) λb24 o24 h24=>?_;refine zab zaK h24 (η2.t η3) λv25 h25=>?_;refine zaa zaW ?_;refine zab zd5 (zay hA2) (η2.t η3) λv27 h27=>?_;refine zax u33 zaK h27 (by omega) (by omega) λb29 o29 h29=>?_;refine zab zaK h29 (η2.t η3) λv30 h30=>?_;have hln31:=zah h30;refine zae u25 h30 ?_;refine za0 (by unfold I64;omega) ?_;refine zax u25 ty3 h25 (by omega) (by omega) λb33 o33 h33=>?_;refine zac ty3 h33 (η2.t η3) λhI34=>?_;refine ⟨(η1.t (η2.t η3)),?_⟩;unfold zcH;rw [dif_pos (by omega)];rw [zjm (λe=>by rw [e] at c2;simp at c2)]
def F67 (a0 a1:Value) (w:World) (R:VW):Prop:=
 oX 36 a0 w λx2 w=>
 rB .lss 3 T0 U0 a1 (iV 0) w λx6=>
 BR x6
 (R (iV (-1)) w)
 (rF 36 x2 2 w λx9=>
 rL 33 x9 w λx10=>
 rN 33 3 x10 w λx11=>
 rB .geq 3 T0 T0 a1 x11 w λx12=>
 BR x12
 (R (iV (-1)) w)
 (rF 36 x2 2 w λx15=>
 rL 33 x15 w λx16=>
 rX 33 x16 a1 w λx18=>
 rL 25 x18 w λx19=>
 rN 25 3 x19 w λx20=>
 rQ x20 (iV 0) w λx21=>
 BR x21
 (R (iV (-1)) w)
 ((λw=>rF 36 x2 2 w λx23=>
 rL 33 x23 w λx24=>
 rX 33 x24 a1 w λx26=>
 rL 25 x26 w λx27=>
 rF 36 x2 2 w λx28=>
 rL 33 x28 w λx29=>
 rX 33 x29 a1 w λx31=>
 rL 25 x31 w λx32=>
 rN 25 3 x32 w λx33=>
 rB .sub 3 T0 U0 x33 (iV 1) w λx34=>
 rX 25 x27 x34 w λx35=>
 rL 3 x35 w λx36=>
 R x36 w) (World.drew1 w))))
theorem F67_call {a0 a1 w R} (h:F67 a0 a1 w R):cL 67 [a0,a1] w R:=co (g:=(kf [] [] [(3,[0,1,2,3,4,5,6,7,8,9,10,11,12,13,14],0)])) Tryz.func67 h
theorem zjn {w:World} {v0:Value} {W0:World} {s:DState} {t:Int}  (h0:Is W0 v0 s) (e0:Ext W0 w)  :
   CALL tp 67 [v0,.int .i64 t] w λr w'=>Ext w w'∧(r=.int .i64 (zcH s t)):=by
 refine F67_call ?_;unfold F67;refine zao zcT rfl h0 e0 λw1_ η1 hA2 hV2=>?_;refine zaf ?_;refine br (λc1=>?_) (λc1=>?_)
 · refine ⟨η1,?_⟩
   unfold zcH;rw [dif_neg (by omega)]
 refine zaa zaW ?_;refine zab zd5 (zay hA2) (Ext.refl w1_) λv10 h10=>?_;have hln11:=zah h10;refine zae u33 h10 ?_;refine zbW ?_;refine br (λc2=>?_) (λc2=>?_)
 · refine ⟨η1,?_⟩
   unfold zcH;rw [dif_neg (by omega)]
 refine zaa zaW ?_;refine zab zd5 (zay hA2) (Ext.refl w1_) λv16 h16=>?_;refine zax u33 zaK h16 (by omega) (by omega) λb18 o18 h18=>?_;refine zab zaK h18 (Ext.refl w1_) λv19 h19=>?_;have hln20:=zah h19;refine zae u25 h19 ?_;refine zag ?_;refine br (λc3=>?_) (λc3=>?_)
 · refine ⟨η1,?_⟩
   unfold zcH;rw [dif_pos (by omega)];have:s.stacks[t.toNat]'(by omega)=[]:=List.eq_nil_of_length_eq_zero (by omega);rw [this];rfl
 have η2:=zai w1_;refine zaa zaW ?_;refine zab zd5 (zay hA2) η2 λv24 h24=>?_;refine zax u33 zaK h24 (by omega) (by omega) λb26 o26 h26=>?_;refine zab zaK h26 η2 λv27 h27=>?_;refine zaa zaW ?_;refine zab zd5 (zay hA2) η2 λv29 h29=>?_;refine zax u33 zaK h29 (by omega) (by omega) λb31 o31 h31=>?_;refine zab zaK h31 η2 λv32 h32=>?_;have hln33:=zah h32;refine zae u25 h32 ?_;refine za0 (by unfold I64;omega) ?_;refine zax u25 ty3 h27 (by omega) (by omega) λb35 o35 h35=>?_;refine zac ty3 h35 η2 λhI36=>?_;refine ⟨(η1.t η2),?_⟩;unfold zcH;rw [dif_pos (by omega)];rw [zjm (λe=>by rw [e] at c3;simp at c3)]
theorem zsa:zcu tp 36=some [.slice none 0 0,.slice none 0 0,.slice none 0 0]:=by kernel_rfl
def zmq (b:UInt8):Bool:=decide ((97:Int)≤(b.toNat:Int)∧(b.toNat:Int)≤122)
def zqE (b:UInt8):Bool:=decide ((48:Int)≤(b.toNat:Int)∧(b.toNat:Int)≤57)
def ziF (s:ByteArray):Bool:=decide (s.size≤12)&&(bts s).head?.any zmq&&(bts s).all (λb=>zmq b || zqE b)
def kw:List ByteArray:=[.mk #[97,110,100],.mk #[99,97,108,108],.mk #[101,108,115,101],.mk #[103,108,111,98,97,108,115],.mk #[105,102],.mk #[108,111,99,107],.mk #[108,111,99,107,115],
 .mk #[110,111,116],.mk #[112,114,111,99],.mk #[115,107,105,112],.mk #[115,112,97,119,110],.mk #[117,110,108,111,99,107],.mk #[119,104,105,108,101]]
def zbk (s:ByteArray):Bool:=ziF s&&!decide (s∈kw)
def F280 (a0:Value) (w:World) (R:VW):Prop:=
 rB .geq 5 T0 U0 a0 (Value.int .u8 97) w λx4=>
 BR x4
 (rB .leq 5 T0 U0 a0 (Value.int .u8 122) w λx7=>
 R x7 w)
 (R vF w)
theorem F280_call {a0 w R} (h:F280 a0 w R):cL 280 [a0] w R:=co (g:=(kf [] [] [])) Tryz.func280 h
theorem zkL {w:World} {n:Nat}    :
   CALL tp 280 [.int .u8 (n:Int)] w λr w'=>Ext w w'∧(r=.bool (decide ((97:Int)≤(n:Int)∧(n:Int)≤122))):=by
 refine F280_call ?_;unfold F280;refine zbW ?_;refine br (λc1=>?_) (λc1=>?_)
 · refine zdZ ?_
   refine ⟨Ext.refl w,?_⟩;simp [c1]
 refine ⟨Ext.refl w,?_⟩;simp [c1]
def F281 (a0:Value) (w:World) (R:VW):Prop:=
 rB .geq 5 T0 U0 a0 (Value.int .u8 48) w λx4=>
 BR x4
 (rB .leq 5 T0 U0 a0 (Value.int .u8 57) w λx7=>
 R x7 w)
 (R vF w)
theorem F281_call {a0 w R} (h:F281 a0 w R):cL 281 [a0] w R:=co (g:=(kf [] [] [])) Tryz.func281 h
theorem zou {w:World} {n:Nat}    :
   CALL tp 281 [.int .u8 (n:Int)] w λr w'=>Ext w w'∧(r=.bool (decide ((48:Int)≤(n:Int)∧(n:Int)≤57))):=by
 refine F281_call ?_;unfold F281;refine zbW ?_;refine br (λc1=>?_) (λc1=>?_)
 · refine zdZ ?_
   refine ⟨Ext.refl w,?_⟩;simp [c1]
 refine ⟨Ext.refl w,?_⟩;simp [c1]
def F248 (a0:Value) (w:World) (R:VW):Prop:=
 rB .geq 5 T0 U0 a0 (Value.int .u8 97) w λx4=>
 BR x4
 (rB .leq 5 T0 U0 a0 (Value.int .u8 122) w λx7=>
 R x7 w)
 (R vF w)
theorem F248_call {a0 w R} (h:F248 a0 w R):cL 248 [a0] w R:=co (g:=(kf [] [] [])) Tryz.func248 h
theorem zis {w:World} {n:Nat}    :
   CALL tp 248 [.int .u8 (n:Int)] w λr w'=>Ext w w'∧(r=.bool (decide ((97:Int)≤(n:Int)∧(n:Int)≤122))):=by
 refine F248_call ?_;unfold F248;refine zbW ?_;refine br (λc1=>?_) (λc1=>?_)
 · refine zdZ ?_
   refine ⟨Ext.refl w,?_⟩;simp [c1]
 refine ⟨Ext.refl w,?_⟩;simp [c1]
def F251 (a0:Value) (w:World) (R:VW):Prop:=
 rB .geq 5 T0 U0 a0 (Value.int .u8 48) w λx4=>
 BR x4
 (rB .leq 5 T0 U0 a0 (Value.int .u8 57) w λx7=>
 R x7 w)
 (R vF w)
theorem F251_call {a0 w R} (h:F251 a0 w R):cL 251 [a0] w R:=co (g:=(kf [] [] [])) Tryz.func251 h
theorem zmL {w:World} {n:Nat}    :
   CALL tp 251 [.int .u8 (n:Int)] w λr w'=>Ext w w'∧(r=.bool (decide ((48:Int)≤(n:Int)∧(n:Int)≤57))):=by
 refine F251_call ?_;unfold F251;refine zbW ?_;refine br (λc1=>?_) (λc1=>?_)
 · refine zdZ ?_
   refine ⟨Ext.refl w,?_⟩;simp [c1]
 refine ⟨Ext.refl w,?_⟩;simp [c1]
theorem zpy {s:ByteArray} (h:0<s.size):(bts s).head?=some ((bts s)[0]'(by rw [zbZ];exact h)):=by
 rw [List.head?_eq_getElem?,List.getElem?_eq_getElem (by rw [zbZ];exact h)]
theorem zkM {s:ByteArray} (h:s.size=0):ziF s=false:=by
 have:bts s=[]:=List.eq_nil_of_length_eq_zero (by rw [zbZ];exact h);simp [ziF,this]
theorem zmM {s:ByteArray} (h:12<s.size):ziF s=false:=by
 simp [ziF,Nat.not_le.2 h]
theorem zmN {s:ByteArray} (h:0<s.size) (c:¬((97:Int)≤(((bts s)[0]'(by rw [zbZ];exact h)).toNat:Int)∧(((bts s)[0]'(by rw [zbZ];exact h)).toNat:Int)≤122)):ziF s=false:=by
 have:zmq ((bts s)[0]'(by rw [zbZ];exact h))=false:=by simp only [zmq,c,decide_false]
 simp [ziF,zpy h,this]
theorem zsb {s:ByteArray} {k:Nat} (h:k<s.size) (c1:¬((97:Int)≤(((bts s)[k]'(by rw [zbZ];exact h)).toNat:Int)∧(((bts s)[k]'(by rw [zbZ];exact h)).toNat:Int)≤122))
   (c2:¬((48:Int)≤(((bts s)[k]'(by rw [zbZ];exact h)).toNat:Int)∧(((bts s)[k]'(by rw [zbZ];exact h)).toNat:Int)≤57)):ziF s=false:=by
 have h1:zmq ((bts s)[k]'(by rw [zbZ];exact h))=false:=by simp only [zmq,c1,decide_false]
 have h2:zqE ((bts s)[k]'(by rw [zbZ];exact h))=false:=by simp only [zqE,c2,decide_false]
 have:(bts s).all (λb=>zmq b || zqE b)=false:=by
   rw [List.all_eq_false];exact ⟨_,List.getElem_mem (by rw [zbZ];exact h),by simp [h1,h2]⟩
 simp [ziF,this]
theorem zg5 {s:ByteArray} {k:Nat} (h:k<s.size) (hi:∀ b∈(bts s).take k,(zmq b || zqE b)=true) (c:zmq ((bts s)[k]'(by rw [zbZ];exact h))=true∨zqE ((bts s)[k]'(by rw [zbZ];exact h))=true) :
   ∀ b∈(bts s).take (k+1),(zmq b || zqE b)=true:=by
 rw [tk (by rw [zbZ];exact h)];intro b hb;rcases List.mem_append.1 hb with hb | hb
 · exact hi b hb
 simp only [List.mem_cons,List.not_mem_nil,or_false] at hb;subst hb;simpa using c
theorem zpz {s:ByteArray} {k:Nat} (h0:0<s.size) (h1:s.size≤12) (c:(97:Int)≤(((bts s)[0]'(by rw [zbZ];exact h0)).toNat:Int)∧(((bts s)[0]'(by rw [zbZ];exact h0)).toNat:Int)≤122) (hk:s.size≤k)
   (hi:∀ b∈(bts s).take k,(zmq b || zqE b)=true):ziF s=true:=by
 rw [List.take_of_length_le (by rw [zbZ];exact hk)] at hi;have e1:zmq ((bts s)[0]'(by rw [zbZ];exact h0))=true:=by simp only [zmq,c,and_self,decide_true]
 have e2:(bts s).all (λb=>zmq b || zqE b)=true:=List.all_eq_true.2 hi;simp [ziF,zpy h0,e1,e2,h1]
def F250 (a0:Value) (w:World) (R:VW):Prop:=
 rN 9 3 a0 w λx5=>
 rQ x5 (iV 0) w λx6=>
 BR x6
 (R vF w)
 (rN 9 3 a0 w λx9=>
 rB .gtr 3 T0 U0 x9 (iV 12) w λx10=>
 BR x10
 (R vF w)
 (rD (Instr.index 9 a0 (iV 0)) w λx14=>
 cL 248 [x14] w λx15 w=>
 rT x15 w λx16=>
 BR x16
 (R vF w)
 (LOOPI [3] [(iV 0)] w λu4 w n4=>
 rN 9 3 a0 w λx20=>
 rC (u4 3) x20 w λx21=>
 BR x21
 (rD (Instr.index 9 a0 (u4 3)) w λx26=>
 cL 248 [x26] w λx27 w=>
 rT x27 w λx28=>
 BR x28
 (rD (Instr.index 9 a0 (u4 3)) w λx32=>
 cL 251 [x32] w λx33 w=>
 rT x33 w λx34=>
 BR x34
 (R vF w)
 (rI (u4 3) w λx23=>
 n4 [x23] w))
 (rI (u4 3) w λx23=>
 n4 [x23] w))
 (R vT w))))
theorem F250_call {a0 w R} (h:F250 a0 w R):cL 250 [a0] w R:=co (g:=(kf [] [(4,68719214604,[3])] [])) Tryz.func250 h
theorem zqF {w:World} {s:ByteArray}    :
   CALL tp 250 [.string s] w λr w'=>Ext w w'∧(r=.bool (ziF s)):=by
 refine F250_call ?_;unfold F250;refine zhK u9 ?_;refine zag ?_;refine br (λc1=>?_) (λc1=>?_)
 · refine ⟨Ext.refl w,?_⟩
   rw [zkM (by omega)]
 refine zhK u9 ?_;refine zb1 ?_;refine br (λc2=>?_) (λc2=>?_)
 · refine ⟨Ext.refl w,?_⟩
   rw [zmM (by omega)]
 refine zeZ (i:=0) u9 (by omega) ?_;refine (zis ).mono ?_;rintro _ w1_ ⟨η1,rfl⟩;refine zav ?_;refine br (λc3=>?_) (λc3=>?_)
 · refine ⟨η1,?_⟩
   rw [zmN (by omega) c3]
 refine zat (s.size) (λk us w'=>us=[.int .i64 (k:Int)]∧Ext w1_ w'∧(∀ b∈(bts s).take k,(zmq b || zqE b)=true)) (0) (by omega) ⟨by simp,Ext.refl w1_,by simp⟩ ?_;rintro k m4 uu4 w2_ hk4 ⟨hu,η2,hinv⟩;try replace hu:=zbG hu
 try rw [hu]
 try clear hu
 refine zhK u9 ?_;refine zaf ?_;refine br (λc4=>?_) (λc4=>?_)
 · refine zeZ u9 (by omega) ?_
   refine (zis ).mono ?_;rintro _ w3_ ⟨η3,rfl⟩;refine zav ?_;refine br (λc5=>?_) (λc5=>?_)
   · refine zeZ u9 (by omega) ?_
     refine (zmL ).mono ?_;rintro _ w4_ ⟨η4,rfl⟩;refine zav ?_;refine br (λc6=>?_) (λc6=>?_)
     · refine ⟨(η1.t (η2.t (η3.t η4))),?_⟩
       rw [zsb (by omega) c5 c6]
     refine zaB ?_;refine ⟨m4-1,by omega,k+1,by omega,by simp,(η2.t (η3.t η4)),?_⟩;exact zg5 (by omega) hinv (.inr (by simp only [zqE,Decidable.not_not.1 c6,and_self,decide_true]))
   refine zaB ?_;refine ⟨m4-1,by omega,k+1,by omega,by simp,(η2.t η3),?_⟩;exact zg5 (by omega) hinv (.inl (by simp only [zmq,Decidable.not_not.1 c5,and_self,decide_true]))
 refine ⟨(η1.t η2),?_⟩;rw [zpz (by omega) (by omega) (Decidable.not_not.1 c3) (by omega) hinv]
def F219 (a0:Value) (w:World) (R:VW):Prop:=
 rB .eql 9 T0 U0 a0 (Value.string (ByteArray.mk #[97,110,100])) w λx5=>
 BR x5
 (R vF w)
 (rB .eql 9 T0 U0 a0 (Value.string (ByteArray.mk #[99,97,108,108])) w λx6=>
 BR x6
 (R vF w)
 (rB .eql 9 T0 U0 a0 (Value.string (ByteArray.mk #[101,108,115,101])) w λx7=>
 BR x7
 (R vF w)
 (rB .eql 9 T0 U0 a0 (Value.string (ByteArray.mk #[103,108,111,98,97,108,115])) w λx8=>
 BR x8
 (R vF w)
 (rB .eql 9 T0 U0 a0 (Value.string (ByteArray.mk #[105,102])) w λx9=>
 BR x9
 (R vF w)
 (rB .eql 9 T0 U0 a0 (Value.string (ByteArray.mk #[108,111,99,107])) w λx10=>
 BR x10
 (R vF w)
 (rB .eql 9 T0 U0 a0 (Value.string (ByteArray.mk #[108,111,99,107,115])) w λx11=>
 BR x11
 (R vF w)
 (rB .eql 9 T0 U0 a0 (Value.string (ByteArray.mk #[110,111,116])) w λx12=>
 BR x12
 (R vF w)
 (rB .eql 9 T0 U0 a0 (Value.string (ByteArray.mk #[112,114,111,99])) w λx13=>
 BR x13
 (R vF w)
 (rB .eql 9 T0 U0 a0 (Value.string (ByteArray.mk #[115,107,105,112])) w λx14=>
 BR x14
 (R vF w)
 (rB .eql 9 T0 U0 a0 (Value.string (ByteArray.mk #[115,112,97,119,110])) w λx15=>
 BR x15
 (R vF w)
 (rB .eql 9 T0 U0 a0 (Value.string (ByteArray.mk #[117,110,108,111,99,107])) w λx16=>
 BR x16
 (R vF w)
 (rB .eql 9 T0 U0 a0 (Value.string (ByteArray.mk #[119,104,105,108,101])) w λx17=>
 BR x17
 (R vF w)
 (cL 250 [a0] w λx19 w=>
 R x19 w)))))))))))))
theorem F219_call {a0 w R} (h:F219 a0 w R):cL 219 [a0] w R:=co (g:=(kf [] [] [])) Tryz.func219 h
theorem zb4 {w:World} {s:ByteArray}    :
   CALL tp 219 [.string s] w λr w'=>Ext w w'∧(r=.bool (zbk s)):=by
 refine F219_call ?_;unfold F219;refine zaS ?_;refine br (λc1=>?_) (λc1=>?_)
 · refine ⟨Ext.refl w,?_⟩
   have hm:s∈kw:=by simp [kw, *]
   simp [zbk,hm]
 refine zaS ?_;refine br (λc2=>?_) (λc2=>?_)
 · refine ⟨Ext.refl w,?_⟩
   have hm:s∈kw:=by simp [kw, *]
   simp [zbk,hm]
 refine zaS ?_;refine br (λc3=>?_) (λc3=>?_)
 · refine ⟨Ext.refl w,?_⟩
   have hm:s∈kw:=by simp [kw, *]
   simp [zbk,hm]
 refine zaS ?_;refine br (λc4=>?_) (λc4=>?_)
 · refine ⟨Ext.refl w,?_⟩
   have hm:s∈kw:=by simp [kw, *]
   simp [zbk,hm]
 refine zaS ?_;refine br (λc5=>?_) (λc5=>?_)
 · refine ⟨Ext.refl w,?_⟩
   have hm:s∈kw:=by simp [kw, *]
   simp [zbk,hm]
 refine zaS ?_;refine br (λc6=>?_) (λc6=>?_)
 · refine ⟨Ext.refl w,?_⟩
   have hm:s∈kw:=by simp [kw, *]
   simp [zbk,hm]
 refine zaS ?_;refine br (λc7=>?_) (λc7=>?_)
 · refine ⟨Ext.refl w,?_⟩
   have hm:s∈kw:=by simp [kw, *]
   simp [zbk,hm]
 refine zaS ?_;refine br (λc8=>?_) (λc8=>?_)
 · refine ⟨Ext.refl w,?_⟩
   have hm:s∈kw:=by simp [kw, *]
   simp [zbk,hm]
 refine zaS ?_;refine br (λc9=>?_) (λc9=>?_)
 · refine ⟨Ext.refl w,?_⟩
   have hm:s∈kw:=by simp [kw, *]
   simp [zbk,hm]
 refine zaS ?_;refine br (λc10=>?_) (λc10=>?_)
 · refine ⟨Ext.refl w,?_⟩
   have hm:s∈kw:=by simp [kw, *]
   simp [zbk,hm]
 refine zaS ?_;refine br (λc11=>?_) (λc11=>?_)
 · refine ⟨Ext.refl w,?_⟩
   have hm:s∈kw:=by simp [kw, *]
   simp [zbk,hm]
 refine zaS ?_;refine br (λc12=>?_) (λc12=>?_)
 · refine ⟨Ext.refl w,?_⟩
   have hm:s∈kw:=by simp [kw, *]
   simp [zbk,hm]
 refine zaS ?_;refine br (λc13=>?_) (λc13=>?_)
 · refine ⟨Ext.refl w,?_⟩
   have hm:s∈kw:=by simp [kw, *]
   simp [zbk,hm]
 refine (zqF ).mono ?_;rintro _ w1_ ⟨η1,rfl⟩;refine ⟨η1,?_⟩;have hm:s∉kw:=by simp [kw, *]
 simp [zbk,hm]
def F241 (a0:Value) (w:World) (R:VW):Prop:=
 rN 9 3 a0 w λx5=>
 rB .lss 3 T0 U0 x5 (iV 1) w λx6=>
 BR x6
 (R vF w)
 (rN 9 3 a0 w λx9=>
 rB .gtr 3 T0 U0 x9 (iV 12) w λx10=>
 BR x10
 (R vF w)
 (rD (Instr.index 9 a0 (iV 0)) w λx14=>
 cL 280 [x14] w λx15 w=>
 rT x15 w λx16=>
 BR x16
 (R vF w)
 (LOOPI [3] [(iV 0)] w λu4 w n4=>
 rN 9 3 a0 w λx20=>
 rC (u4 3) x20 w λx21=>
 BR x21
 (rD (Instr.index 9 a0 (u4 3)) w λx26=>
 cL 280 [x26] w λx27 w=>
 rT x27 w λx28=>
 BR x28
 (rD (Instr.index 9 a0 (u4 3)) w λx32=>
 cL 281 [x32] w λx33 w=>
 rT x33 w λx34=>
 BR x34
 (R vF w)
 (rI (u4 3) w λx23=>
 n4 [x23] w))
 (rI (u4 3) w λx23=>
 n4 [x23] w))
 (rB .eql 9 T0 U0 a0 (Value.string (ByteArray.mk #[97,110,100])) w λx38=>
 BR x38
 (R vF w)
 (rB .eql 9 T0 U0 a0 (Value.string (ByteArray.mk #[99,97,108,108])) w λx39=>
 BR x39
 (R vF w)
 (rB .eql 9 T0 U0 a0 (Value.string (ByteArray.mk #[101,108,115,101])) w λx40=>
 BR x40
 (R vF w)
 (rB .eql 9 T0 U0 a0 (Value.string (ByteArray.mk #[103,108,111,98,97,108,115])) w λx41=>
 BR x41
 (R vF w)
 (rB .eql 9 T0 U0 a0 (Value.string (ByteArray.mk #[105,102])) w λx42=>
 BR x42
 (R vF w)
 (rB .eql 9 T0 U0 a0 (Value.string (ByteArray.mk #[108,111,99,107])) w λx43=>
 BR x43
 (R vF w)
 (rB .eql 9 T0 U0 a0 (Value.string (ByteArray.mk #[108,111,99,107,115])) w λx44=>
 BR x44
 (R vF w)
 (rB .eql 9 T0 U0 a0 (Value.string (ByteArray.mk #[110,111,116])) w λx45=>
 BR x45
 (R vF w)
 (rB .eql 9 T0 U0 a0 (Value.string (ByteArray.mk #[112,114,111,99])) w λx46=>
 BR x46
 (R vF w)
 (rB .eql 9 T0 U0 a0 (Value.string (ByteArray.mk #[115,107,105,112])) w λx47=>
 BR x47
 (R vF w)
 (rB .eql 9 T0 U0 a0 (Value.string (ByteArray.mk #[115,112,97,119,110])) w λx48=>
 BR x48
 (R vF w)
 (rB .eql 9 T0 U0 a0 (Value.string (ByteArray.mk #[117,110,108,111,99,107])) w λx49=>
 BR x49
 (R vF w)
 (rB .eql 9 T0 U0 a0 (Value.string (ByteArray.mk #[119,104,105,108,101])) w λx50=>
 BR x50
 (R vF w)
 (R vT w)))))))))))))))))
theorem F241_call {a0 w R} (h:F241 a0 w R):cL 241 [a0] w R:=co (g:=(kf [] [(4,68719214604,[3])] [])) Tryz.func241 h
theorem zg6 {w:World} {s:ByteArray}    :
   CALL tp 241 [.string s] w λr w'=>Ext w w'∧(r=.bool (zbk s)):=by
 refine F241_call ?_;unfold F241;refine zhK u9 ?_;refine zaf ?_;refine br (λc1=>?_) (λc1=>?_)
 · refine ⟨Ext.refl w,?_⟩
   simp [zbk,zkM (s:=s) (by omega)]
 refine zhK u9 ?_;refine zb1 ?_;refine br (λc2=>?_) (λc2=>?_)
 · refine ⟨Ext.refl w,?_⟩
   simp [zbk,zmM (s:=s) (by omega)]
 refine zeZ (i:=0) u9 (by omega) ?_;refine (zkL ).mono ?_;rintro _ w1_ ⟨η1,rfl⟩;refine zav ?_;refine br (λc3=>?_) (λc3=>?_)
 · refine ⟨η1,?_⟩
   simp [zbk,zmN (s:=s) (by omega) c3]
 refine zat (s.size) (λk us w'=>us=[.int .i64 (k:Int)]∧Ext w1_ w'∧(∀ b∈(bts s).take k,(zmq b || zqE b)=true)) (0) (by omega) ⟨by simp,Ext.refl w1_,by simp⟩ ?_;rintro k m4 uu4 w2_ hk4 ⟨hu,η2,hinv⟩;try replace hu:=zbG hu
 try rw [hu]
 try clear hu
 refine zhK u9 ?_;refine zaf ?_;refine br (λc4=>?_) (λc4=>?_)
 · refine zeZ u9 (by omega) ?_
   refine (zkL ).mono ?_;rintro _ w3_ ⟨η3,rfl⟩;refine zav ?_;refine br (λc5=>?_) (λc5=>?_)
   · refine zeZ u9 (by omega) ?_
     refine (zou ).mono ?_;rintro _ w4_ ⟨η4,rfl⟩;refine zav ?_;refine br (λc6=>?_) (λc6=>?_)
     · refine ⟨(η1.t (η2.t (η3.t η4))),?_⟩
       simp [zbk,zsb (s:=s) (by omega) c5 c6]
     refine zaB ?_;refine ⟨m4-1,by omega,k+1,by omega,by simp,(η2.t (η3.t η4)),?_⟩;exact zg5 (by omega) hinv (.inr (by simp only [zqE,Decidable.not_not.1 c6,and_self,decide_true]))
   refine zaB ?_;refine ⟨m4-1,by omega,k+1,by omega,by simp,(η2.t η3),?_⟩;exact zg5 (by omega) hinv (.inl (by simp only [zmq,Decidable.not_not.1 c5,and_self,decide_true]))
 refine zaS ?_;refine br (λc7=>?_) (λc7=>?_)
 · refine ⟨(η1.t η2),?_⟩
   have hm:s∈kw:=by simp only [kw,List.mem_cons, *,true_or,or_true]
   simp [zbk,hm]
 refine zaS ?_;refine br (λc8=>?_) (λc8=>?_)
 · refine ⟨(η1.t η2),?_⟩
   have hm:s∈kw:=by simp only [kw,List.mem_cons, *,true_or,or_true]
   simp [zbk,hm]
 refine zaS ?_;refine br (λc9=>?_) (λc9=>?_)
 · refine ⟨(η1.t η2),?_⟩
   have hm:s∈kw:=by simp only [kw,List.mem_cons, *,true_or,or_true]
   simp [zbk,hm]
 refine zaS ?_;refine br (λc10=>?_) (λc10=>?_)
 · refine ⟨(η1.t η2),?_⟩
   have hm:s∈kw:=by simp only [kw,List.mem_cons, *,true_or,or_true]
   simp [zbk,hm]
 refine zaS ?_;refine br (λc11=>?_) (λc11=>?_)
 · refine ⟨(η1.t η2),?_⟩
   have hm:s∈kw:=by simp only [kw,List.mem_cons, *,true_or,or_true]
   simp [zbk,hm]
 refine zaS ?_;refine br (λc12=>?_) (λc12=>?_)
 · refine ⟨(η1.t η2),?_⟩
   have hm:s∈kw:=by simp only [kw,List.mem_cons, *,true_or,or_true]
   simp [zbk,hm]
 refine zaS ?_;refine br (λc13=>?_) (λc13=>?_)
 · refine ⟨(η1.t η2),?_⟩
   have hm:s∈kw:=by simp only [kw,List.mem_cons, *,true_or,or_true]
   simp [zbk,hm]
 refine zaS ?_;refine br (λc14=>?_) (λc14=>?_)
 · refine ⟨(η1.t η2),?_⟩
   have hm:s∈kw:=by simp only [kw,List.mem_cons, *,true_or,or_true]
   simp [zbk,hm]
 refine zaS ?_;refine br (λc15=>?_) (λc15=>?_)
 · refine ⟨(η1.t η2),?_⟩
   have hm:s∈kw:=by simp only [kw,List.mem_cons, *,true_or,or_true]
   simp [zbk,hm]
 refine zaS ?_;refine br (λc16=>?_) (λc16=>?_)
 · refine ⟨(η1.t η2),?_⟩
   have hm:s∈kw:=by simp only [kw,List.mem_cons, *,true_or,or_true]
   simp [zbk,hm]
 refine zaS ?_;refine br (λc17=>?_) (λc17=>?_)
 · refine ⟨(η1.t η2),?_⟩
   have hm:s∈kw:=by simp only [kw,List.mem_cons, *,true_or,or_true]
   simp [zbk,hm]
 refine zaS ?_;refine br (λc18=>?_) (λc18=>?_)
 · refine ⟨(η1.t η2),?_⟩
   have hm:s∈kw:=by simp only [kw,List.mem_cons, *,true_or,or_true]
   simp [zbk,hm]
 refine zaS ?_;refine br (λc19=>?_) (λc19=>?_)
 · refine ⟨(η1.t η2),?_⟩
   have hm:s∈kw:=by simp only [kw,List.mem_cons, *,true_or,or_true]
   simp [zbk,hm]
 refine ⟨(η1.t η2),?_⟩;have hm:s∉kw:=by simp only [kw,List.mem_cons,List.not_mem_nil,or_false, *,not_false_eq_true]
 simp [zbk,hm,zpz (by omega) (by omega) (Decidable.not_not.1 c3) (by omega) hinv]
end Go.Proofs.YtakjaofncelghaaGreat
namespace Go.Sh
open Go.RowKit (Below)
open Rep (rep)
theorem ziL (off:Nat):∀ (l:List Value) (k:Nat) (cs:Array Value),
   ((l.zipIdx k).foldl (λ(cs:Array Value) (p:Value×Nat)=>cs.setIfInBounds (off+p.2) p.1) cs).size=cs.size ∧
   ∀ i,((l.zipIdx k).foldl (λ(cs:Array Value) (p:Value×Nat)=>cs.setIfInBounds (off+p.2) p.1) cs)[i]?=if off+k≤i∧i<off+k+l.length∧i<cs.size then l[i-(off+k)]? else cs[i]?
 | [],k,cs=>by
   refine ⟨rfl,λi=>?_⟩;rw [if_neg (by simp;omega)];rfl
 | v :: l,k,cs=>by
   obtain ⟨h1,h2⟩:=ziL off l (k+1) (cs.setIfInBounds (off+k) v);simp only [List.zipIdx_cons,List.foldl_cons];refine ⟨by rw [h1];simp,λi=>?_⟩;rw [h2];simp only [Array.size_setIfInBounds,List.length_cons];by_cases hi:i=off+k
   · subst hi
     rw [if_neg (by omega)];by_cases hs:off+k<cs.size
     · rw [if_pos (by omega)];simp [hs]
     rw [if_neg (by omega),Array.getElem?_eq_none (by rw [Array.size_setIfInBounds];omega),Array.getElem?_eq_none (by omega)]
   by_cases hr:off+(k+1)≤i∧i<off+(k+1)+l.length∧i<cs.size
   · rw [if_pos hr,if_pos (by omega)]
     have:i-(off+k)=(i-(off+(k+1)))+1:=by omega
     rw [this,List.getElem?_cons_succ]
   rw [if_neg hr,if_neg (by omega),Array.getElem?_setIfInBounds_ne (by omega)]
theorem zpA (v:Value) (cells:Array Value) (s:Nat) (hv:v.cells.size=s) (hc:cells.size=s):Instr.fill (λi=>some (i*s,s)) cells [(0,v)]=some v.cells:=by
 unfold Instr.fill;simp only [Nat.zero_mul];rw [if_neg (by simp;omega)];unfold Instr.fill;congr 1;obtain ⟨h1,h2⟩:=ziL 0 v.cells.toList 0 cells
 have e:v.cells.zipIdx.foldl (λ(cs:Array Value) (x:Value×Nat)=>match x with | (c,j)=>cs.setIfInBounds (0+j) c) cells
     = (v.cells.toList.zipIdx 0).foldl (λ(cs:Array Value) (p:Value×Nat)=>cs.setIfInBounds (0+p.2) p.1) cells:=by
   rw [←Array.foldl_toList,Array.toList_zipIdx]
 rw [e];apply Array.ext_getElem?;intro i;rw [h2];by_cases hi:i<s
 · rw [if_pos (by simp;omega)];simp
 rw [if_neg (by simp;omega),Array.getElem?_eq_none (by omega),Array.getElem?_eq_none (by omega)]
section
variable {w w' w'':World} {lo hi a b:Nat}
end
def RowI {α:Type} [Rep α] (lo hi:Nat) (e:TypeId) (w:World) (v:Value) (l:List α):Prop:=(∃ a,v=.slice a 0 0∧l=[])∨∃ F,RowF F e w v l∧F.Nodup∧∀ b∈F,lo≤b∧b<hi
section
variable {P:Program} {w w0 w':World} {α:Type} [Rep α] {lo hi a b e:Nat} {v:Value} {l:List α}
theorem zdr (a:Option Addr):OwnI (α:=List α) lo hi w (.slice a 0 0) []:=
 ⟨[],⟨⟨_,⟨a,0,[],[],rfl,lr _,z0 _,⟨rfl,rfl⟩,.inl ⟨rfl,rfl⟩⟩,rfl⟩,List.nodup_nil,Wr.nil w⟩,by simp⟩
theorem RowI.ext (h:RowI lo hi e w v l) (hx:Ext w w'):RowI lo hi e w' v l:=by
 rcases h with h | ⟨F,h1,h2,h3⟩
 · exact .inl h
 exact .inr ⟨F,h1.ext hx,h2,h3⟩
theorem RowI.chg (h:RowI lo hi e w v l) (hc:ChgI a b w w') (hd:hi≤a∨b≤lo):RowI lo hi e w' v l:=by
 rcases h with h | ⟨F,h1,h2,h3⟩
 · exact .inl h
 exact .inr ⟨F,h1.keep λc hcm=>hc.block c (h1.lt c hcm) (by have:=h3 c hcm;omega),h2,h3⟩
theorem RowI.own (h:RowI lo hi e w v l):OwnI lo hi w v l:=by
 rcases h with ⟨a,rfl,rfl⟩ | ⟨F,h1,h2,h3⟩
 · exact zdr a
 exact ⟨F,⟨h1.own,h2,h1.wr⟩,h3⟩
theorem RowI.is (h:RowI lo hi e w v l):Is w v l:=h.own.is
theorem RowI.mono {lo' hi':Nat} (h:RowI lo hi e w v l) (h1:lo'≤lo) (h2:hi≤hi'):RowI lo' hi' e w v l:=by
 rcases h with h | ⟨F,h1,h2,h3⟩
 · exact .inl h
 exact .inr ⟨F,h1,h2,λb hb=>by have:=h3 b hb;omega⟩
theorem zcw (lo hi e:Nat) (w:World) (a:Option Addr):RowI (α:=α) lo hi e w (.slice a 0 0) []:=.inl ⟨a,rfl,rfl⟩
theorem zcm (lo hi e:Nat) (w:World):RowI (α:=α) lo hi e w (.slice none 0 0) []:=.inl ⟨none,rfl,rfl⟩
theorem zg7 (e:Nat) (w:World):RowF (α:=α) [] e w (.slice none 0 0) []:=⟨[],[],⟨by simp,.inl ⟨rfl,rfl⟩⟩,⟨rfl,rfl⟩,rfl,Wr.nil _⟩
theorem ziM {m1 m2:Sem Value} {K:Value→World→Prop} (h:m1.run P w=m2.run P w) (k:OP P m2 w K):OP P m1 w K:=by
 obtain ⟨v,w',hr,hk⟩:=k;exact ⟨v,w',h.trans hr,hk⟩
theorem zfr {t ty:TypeId} {by_ n c:Nat} {x:Addr} {b o:Nat} {xs:List Value} (ht:P.underlying t=some (.slice e)) (he:tyI P e=some (Rep.size α,by_,Rep.agg α)) (hzc:(P.info? e).map (λi=>(i.zero.map (·.cells.size)))=some (some (Rep.size α)))
   (hl:xs.length=n*Rep.size α) (hr:w.rangeAt b o xs) (h0:0<n) (hm:n≤maxLen) (hb:n*by_≤140737488355328) :
   (Builtin.append_ #[t,t] ty #[.slice (some x) 0 0,.slice (some ⟨b,o,none⟩) n c]).run P w=(Builtin.append_ #[t,t] ty #[.slice none 0 0,.slice (some ⟨b,o,none⟩) n c]).run P w:=by
 obtain ⟨i,d,hi,hd,hs,hby,hg⟩:=zc5 he;simp only [hi,Option.map_some,Option.some.injEq] at hzc;obtain ⟨z,hz,hzs⟩:=Option.map_eq_some_iff.1 hzc;rw [zak] at hm;have h1:=run_append_nil (P:=P) w t ty e i z ht hi hz ⟨b,o,none⟩ n c xs (by rw [hs];exact hl) (λj u hu=>by rw [Addr.add_mid];exact hr j u hu) h0 (by omega) (by rw [hby];omega);have h2:=run_append_grow (P:=P) w t ty e i z ht hi hz x 0 0 [] (by simp) (by simp) ⟨b,o,none⟩ n c xs (by rw [hs];exact hl) (λj u hu=>by rw [Addr.add_mid];exact hr j u hu) (by omega) (by omega) (growslice_fits (by omega) (by rw [hby];simpa using hb));rw [h1,h2];simp
theorem zg8 {t:TypeId} {by_:Nat} {u:Value} {x:α} {K:Value→World→Prop} (ht:P.underlying t=some (.slice e)) (he:tyI P e=some (Rep.size α,by_,Rep.agg α)) (hz:zbX P e=true) (hsz:Rep.size α≤1000)
   {F:List Nat} (hx:Mine F w u x)
   (k:∀ w',Ext w w'→Mine (w.heap.size :: F) w' (.slice (some ⟨w.heap.size,0,none⟩) 1 1) [x]→K (.slice (some ⟨w.heap.size,0,none⟩) 1 1) w'):OP P (Instr.buildSlice t 1 #[(0,u)]) w K:=by
 obtain ⟨⟨cs,hr,rfl⟩,hn,hw⟩:=hx;have hcl:=zek hr;have hlen:=Rep.len hr;have hvs:(mkv α cs).cells.size=Rep.size α:=by rw [←Array.length_toList,hcl,hlen]
 obtain ⟨i,d,hi,hd,hs,hby,hg⟩:=zc5 he;unfold zbX at hz;rw [hi] at hz;obtain ⟨z,hz⟩:=Option.isSome_iff_exists.1 hz;have hpos:=Rep.pos (α:=α);refine ⟨_,w.alloc (.cells (mkv α cs).cells e),?_,k _ (zaP w _) ?_⟩
 · have hne:¬Rep.size α=0:=by omega
   have h24:¬2^24<Rep.size α:=by omega
   simp only [Instr.buildSlice,Sem.run_bind,run_underlying ht,Result.andThen_ok,zaM he,Nat.one_mul];simp [h24,hne,zeroValue,typeInfo,hi,hz,zpA _ _ _ hvs,newRow]
 have hx:=zaP w (.cells (mkv α cs).cells e);have hB:(w.alloc (.cells (mkv α cs).cells e)).heap[w.heap.size]?=some (.cells (mkv α cs).cells e (0,0)):=heap_alloc_new w _;have hFlt:=Rep.lt hr;refine ⟨⟨_,⟨_,1,F,cs,rfl,lr _,by rw [zak];omega,Cells.single (zb8 hr hx),.inr ⟨w.heap.size,0,rfl,rfl,?_,?_⟩⟩,rfl⟩,?_,?_⟩
 · intro j y hy
   simp only [World.cell?,hB];rw [←hcl] at hy;simpa using hy
 · exact (Array.getElem?_eq_some_iff.1 hB).1
 · exact List.nodup_cons.2 ⟨λh=>by have:=hFlt _ h;omega,hn⟩
 intro c hc;rcases List.mem_cons.1 hc with rfl | hc
 · exact ⟨_,_,hB⟩
 exact hw.ext hx c hc
theorem zhO {t:TypeId} {by_:Nat} {u:Value} {x:α} {K:Value→World→Prop} (ht:P.underlying t=some (.slice e)) (he:tyI P e=some (Rep.size α,by_,Rep.agg α)) (hz:zbX P e=true) (hsz:Rep.size α≤1000)
   (hx:OwnI lo hi w u x) (hlo:lo≤w.heap.size)
   (k:∀ v w',Ext w w'→OwnI lo w'.heap.size w' v [x]→K v w'):OP P (Instr.buildSlice t 1 #[(0,u)]) w K:=by
 obtain ⟨F,hm,hF⟩:=hx;refine zg8 ht he hz hsz hm λw' hxx hm'=>k _ w' hxx ⟨_,hm',λb hb=>⟨?_,hm'.lt b hb⟩⟩;rcases List.mem_cons.1 hb with rfl | hb
 · exact hlo
 exact (hF b hb).1
theorem zaQ {t:TypeId} {by_:Nat} {K:Value→World→Prop} (ht:P.underlying t=some (.slice e)) (he:tyI P e=some (Rep.size α,by_,Rep.agg α))
   (k:∀ a w',Ext w w'→RowI (α:=α) w'.heap.size w'.heap.size e w' (.slice (some a) 0 0) []→K (.slice (some a) 0 0) w'):OP P (Instr.buildSlice t 0 #[]) w K:=
 zg2 (α:=α) ht he λa w' hx hr=>k _ w' hx (zcw _ _ _ _ _)
theorem zlv {t ty:TypeId} {by_:Nat} {u:Value} {x:α} {lo2 hi2:Nat} {K C:Value→World→Prop} (ht:P.underlying t=some (.slice e)) (he:tyI P e=some (Rep.size α,by_,Rep.agg α)) (hz:zbX P e=true)
   (hzc:(P.info? e).map (λi=>(i.zero.map (·.cells.size)))=some (some (Rep.size α))) (hsz:Rep.size α≤1000) (hv:RowI lo hi e w v l) (hlo:lo≤w.heap.size) (hx:OwnI lo2 hi2 w u x) (hl:hi≤lo2) (hl2:lo≤lo2) (hm:l.length+1≤maxLen) (hb:(l.length+1)*by_≤140737488355328)
   (k:∀ v' w',ChgI lo hi w w'→RowI lo w'.heap.size e w' v' (l++[x])→K v' w')
   (hC:∀ s w1,Ext w w1→OP P (Builtin.append_ #[t,t] ty [v,s].toArray) w1 K→C s w1):OP P (Instr.buildSlice t 1 #[(0,u)]) w C:=by
 obtain ⟨G,hmx,hG⟩:=hx;refine zg8 ht he hz hsz hmx λw1 hx1 hm1=>?_;obtain ⟨⟨cs,⟨a,cap,Fi,xs,rfl,h1,h2,hc,h4⟩,hveq⟩,hn1,hw1⟩:=hm1;simp only [mkv,Rep.agg,cond_false,List.headD_cons,Value.slice.injEq,List.length_cons,List.length_nil] at hveq;obtain ⟨rfl,_,rfl⟩:=hveq;rcases h4 with ⟨h4,_⟩ | ⟨b,o,hab,hFe,hra,hbl⟩
 · simp at h4
 simp only [List.cons.injEq] at hFe;obtain ⟨_,rfl⟩:=hFe
 have key:∀ (v:Value) (F:List Nat),RowF F e w v l→F.Nodup→(∀ b∈F,lo≤b∧b<hi)→OP P (Builtin.append_ #[t,t] ty [v,.slice (some ⟨w.heap.size,0,none⟩) 1 1].toArray) w1 K:=by
   intro v F hF hFn hFl;have hF1:=hF.ext hx1
   have hd:(G++F).Nodup:=by
     rw [List.nodup_append];refine ⟨hmx.nodup,hFn,λp hp q hq e=>?_⟩;subst e;have:=hG p hp;have:=hFl p hq;omega
   refine ze1 (m:=[x]) ht he hzc hF1 hFn rfl hc (.inr ⟨b,o,hab,hra⟩) (hw1.sub (by simp +contextual)) hd (by simpa using hm) (by simpa using hb) λv' w' F' hch hfull hr' hn' hs'=>?_
   have hown:∀ c∈v.ownBlock.toList,lo≤c∧c<hi:=λc hc=>by
     obtain ⟨xs,Fi,_,_,rfl,_⟩:=hF;exact hFl c (by simp only [List.mem_append];exact .inl hc)
   refine k v' w' ((Ext.toI hx1).trans (hch.toI hown)) (.inr ⟨F',hr',hn',λc hc=>⟨?_,hr'.lt c hc⟩⟩);rcases hs' c hc with h | h | h
   · exact (hFl c h).1
   · have:=hG c h;omega
   have:=hx1.size;omega
 refine hC _ w1 hx1 ?_;rcases hv with ⟨a0,rfl,rfl⟩ | ⟨F,hF,hFn,hFl⟩
 · have kn:=key (.slice none 0 0) [] (zg7 e w) List.nodup_nil (by simp)
   cases a0 with
   | none=>exact kn
   | some x0=>
     simp only [Option.some.injEq,Addr.mk.injEq] at hab;obtain ⟨rfl,rfl,_⟩:=hab;exact ziM (zfr (α:=α) (n:=1) ht he hzc (by simpa using Cells.len hc) hra (by omega) (by rw [zak];omega) (by simpa using hb)) kn
 exact key v F hF hFn hFl
theorem zcn {t ty:TypeId} {by_:Nat} {u:Value} {x:α} {lo2 hi2:Nat} {K:Value→World→Prop} (ht:P.underlying t=some (.slice e)) (he:tyI P e=some (Rep.size α,by_,Rep.agg α)) (hz:zbX P e=true)
   (hzc:(P.info? e).map (λi=>(i.zero.map (·.cells.size)))=some (some (Rep.size α))) (hsz:Rep.size α≤1000) (hv:RowI lo hi e w v l) (hlo:lo≤w.heap.size) (hx:OwnI lo2 hi2 w u x) (hl:hi≤lo2) (hl2:lo≤lo2) (hm:l.length+1≤maxLen) (hb:(l.length+1)*by_≤140737488355328)
   (k:∀ v' w',ChgI lo hi w w'→RowI lo w'.heap.size e w' v' (l++[x])→K v' w'):OP P (Instr.buildSlice t 1 #[(0,u)]) w λs w1=>OP P (Builtin.append_ #[t,t] ty [v,s].toArray) w1 K:=
 zlv ht he hz hzc hsz hv hlo hx hl hl2 hm hb k λ_ _ _ h=>h
theorem ziN {t ty:TypeId} {by_:Nat} {u:Value} {x:α} {lo2 hi2:Nat} {K:Value→World→Prop} (ht:P.underlying t=some (.slice e)) (he:tyI P e=some (Rep.size α,by_,Rep.agg α)) (hz:zbX P e=true)
   (hzc:(P.info? e).map (λi=>(i.zero.map (·.cells.size)))=some (some (Rep.size α))) (hsz:Rep.size α≤1000) (hv:RowI lo hi e w v l) (hlo:lo≤w.heap.size) (hx:OwnI lo2 hi2 w u x) (hl:hi≤lo2) (hl2:lo≤lo2) (hm:l.length+1≤maxLen) (hb:(l.length+1)*by_≤140737488355328)
   (k:∀ v' w',ChgI lo hi w w'→RowI lo w'.heap.size e w' v' (l++[x])→K v' w'):OP P (Instr.buildSlice t 1 #[(0,u)]) w λs w1=>Ext w w1∧OP P (Builtin.append_ #[t,t] ty [v,s].toArray) w1 K:=
 zlv ht he hz hzc hsz hv hlo hx hl hl2 hm hb k λ_ _ hx h=>⟨hx,h⟩
theorem zhP [Flat α] {t ty:TypeId} {by_:Nat} {src:Value} {m:List α} {K:Value→World→Prop} (ht:P.underlying t=some (.slice e)) (he:tyI P e=some (Rep.size α,by_,Rep.agg α))
   (hzc:(P.info? e).map (λi=>(i.zero.map (·.cells.size)))=some (some (Rep.size α))) (hv:RowI lo hi e w v l) (hlo:lo≤w.heap.size) (hs:Is w0 src m) (hx:Ext w0 w) (hm:l.length+m.length≤maxLen) (hb:(l.length+m.length)*by_≤140737488355328)
   (k:∀ v' w',ChgI lo hi w w'→RowI lo w'.heap.size e w' v' (l++m)→K v' w'):OP P (Builtin.append_ #[t,t] ty [v,src].toArray) w K:=by
 obtain ⟨a,cap,Fi,xs,rfl,h1,h2,hc,h4⟩:=zcY (hs.ext hx);have hFi:=Cells.flat (xs:=xs) hc;subst hFi
 have key:∀ (v:Value) (F:List Nat),RowF F e w v l→F.Nodup→(∀ b∈F,lo≤b∧b<hi)→OP P (Builtin.append_ #[t,t] ty [v,.slice a m.length cap].toArray) w K:=by
   intro v F hF hFn hFl;refine ze1 (m:=m) ht he hzc hF hFn rfl hc (by rcases h4 with h | ⟨b,o,ha,hr,_⟩;exact .inl h;exact .inr ⟨b,o,ha,hr⟩) (Wr.nil _) (by simpa using hFn) hm hb λv' w' F' hch hfull hr' hn' hs'=>?_
   have hown:∀ c∈v.ownBlock.toList,lo≤c∧c<hi:=λc hc=>by
     obtain ⟨xs,Fi,_,_,rfl,_⟩:=hF;exact hFl c (by simp only [List.mem_append];exact .inl hc)
   refine k v' w' (hch.toI hown) (.inr ⟨F',hr',hn',λc hc=>⟨?_,hr'.lt c hc⟩⟩);rcases hs' c hc with h | h | h
   · exact (hFl c h).1
   · simp at h
   omega
 rcases hv with ⟨a0,rfl,rfl⟩ | ⟨F,hF,hFn,hFl⟩
 · have kn:=key (.slice none 0 0) [] (zg7 e w) List.nodup_nil (by simp)
   cases a0 with
   | none=>exact kn
   | some x0=>
     by_cases hm0:m=[]
     · subst hm0
       refine ⟨.slice (some x0) 0 0,w,?_,k _ w (ChgI.refl w) (zcw _ _ _ _ _)⟩
       have hf:(Builtin.firstCells (Rep.size α) 0 (.slice a 0 cap)).run P w=.ok #[] w:=by
         cases a with
         | none=>rfl
         | some a=>simp [Builtin.firstCells,loadCells,loadCellsFrom]
       simp [Builtin.append_,run_underlying ht,zaM he,Builtin.lenOf,hf,storeCells]
     rcases h4 with h | ⟨b,o,rfl,hr,_⟩
     · exact absurd h hm0
     exact ziM (zfr (α:=α) ht he hzc (Cells.len hc) hr (List.length_pos_iff.2 hm0) (by simpa using hm) (by simpa using hb)) kn
 exact key v F hF hFn hFl
theorem zov {a:Option Addr} {cap:Nat} {l:List α} (h:Is w (.slice a l.length cap) l) (k:Nat) (hk:k≤l.length):Is w (.slice a k cap) (l.take k):=by
 obtain ⟨F,cs,⟨a',cap',Fi,xs,rfl,h1,h2,hc,h4⟩,hv⟩:=h;simp only [mkv,Rep.agg,cond_false,List.headD_cons,Value.slice.injEq] at hv;obtain ⟨rfl,_,rfl⟩:=hv;have e:l=l.take k++l.drop k:=by simp
 have hlen:(l.take k).length=k:=by simp;omega
 rw [e] at hc;obtain ⟨F1,F2,x1,x2,rfl,rfl,c1,c2⟩:=Cells.split hc;by_cases hd:l.take k=[]
 · refine ⟨[],_,⟨a,cap,F1,x1,rfl,by rw [hlen];omega,h2,c1,.inl ⟨hd,rfl⟩⟩,?_⟩
   rw [hlen];rfl
 rcases h4 with ⟨rfl,_⟩ | ⟨b,o,rfl,rfl,hr,hb⟩
 · simp at hd
 refine ⟨_,_,⟨some ⟨b,o,none⟩,cap,F1,x1,rfl,by rw [hlen];omega,h2,c1,.inr ⟨b,o,rfl,rfl,(zaz hr).1,hb⟩⟩,?_⟩;rw [hlen];rfl
theorem zow {t:TypeId} {by_:Nat} {v:Value} {l:List α} {i:Int} {K:Value→Prop} (ht:P.underlying t=some (.slice e)) (he:tyI P e=some (Rep.size α,by_,Rep.agg α)) (h:Is w0 v l) (h0:0≤i) (h1:i.toNat≤l.length)
   (k:∀ v',Is w0 v' (l.take i.toNat)→K v'):RD P (Instr.sliceAt t v none (some (.int .i64 i)) none) w K:=by
 obtain ⟨a,cap,Fi,xs,rfl,hc1,hcm,_,h4⟩:=zcY h
 have hb:∀ w',(Instr.sliceBounds true l.length cap none (some (.int .i64 i)) none).run P w'=.ok (0,i.toNat,cap) w':=λw'=>by
   have:i≤(cap:Int):=by omega
   simp [Instr.sliceBounds,Instr.sliceBound,asIntOf,h0,this]
 refine za3 (v:=.slice a i.toNat cap) (λw' _=>?_) (k _ (zov h i.toNat h1))
 have hz:(if cap=0 then a else a.map (λx=>x.add (0*Rep.size α)))=a:=by
   split
   · rfl
   cases a<;>simp [Addr.add_mid,Addr.add]
 simp only [Instr.sliceAt,Instr.slice,Sem.run_bind,run_underlying ht,Result.andThen_ok,hb,zaM he];simp;exact λ_=>by cases a<;>simp [Addr.add_mid,Addr.add]
theorem zlw {t:TypeId} {by_:Nat} {v:Value} {l:List α} {i j:Int} {K:Value→Prop} (ht:P.underlying t=some (.slice e)) (he:tyI P e=some (Rep.size α,by_,Rep.agg α)) (h:Is w0 v l) (h0:0≤i) (h1:i≤j) (h2:j.toNat≤l.length)
   (k:∀ v',Is w0 v' ((l.take j.toNat).drop i.toNat)→K v'):RD P (Instr.sliceAt t v (some (.int .i64 i)) (some (.int .i64 j)) none) w K:=by
 obtain ⟨a,cap,Fi,xs,rfl,hc1,hcm,_,h4⟩:=zcY h
 have hb:∀ w',(Instr.sliceBounds true l.length cap (some (.int .i64 i)) (some (.int .i64 j)) none).run P w'=.ok (i.toNat,j.toNat,cap) w':=λw'=>by
   have h3:j≤(cap:Int):=by omega
   have h5:0≤j:=by omega
   simp [Instr.sliceBounds,Instr.sliceBound,asIntOf,h0,h1,h3,h5];intro h6;omega
 have hl:(l.take j.toNat).length=j.toNat:=by rw [List.length_take];omega
 have ht1:Is w0 (.slice a (l.take j.toNat).length cap) (l.take j.toNat):=by rw [hl];exact zov h j.toNat h2
 have hd:=zod ht1 i.toNat (by omega) (Rep.size α) rfl;rw [hl] at hd;refine za3 (λw' _=>?_) (k _ hd);simp only [Instr.sliceAt,Instr.slice,Sem.run_bind,run_underlying ht,Result.andThen_ok,hb,zaM he];simp
def AtB {α:Type} [Rep α] (W w:World) (b o:Nat) (x:α):Prop:=∃ F cs,rep F W cs x∧w.rangeAt b o cs
theorem AtB.keep {W w':World} {b o:Nat} {x:α} (h:AtB W w b o x) (hb:w'.heap[b]?=w.heap[b]?):AtB W w' b o x:=by
 obtain ⟨F,cs,hr,ha⟩:=h;exact ⟨F,cs,hr,za2 ha hb⟩
theorem AtB.ext {W:World} {b o:Nat} {x:α} (h:AtB W w b o x) (hx:Ext w w'):AtB W w' b o x:=by
 obtain ⟨F,cs,hr,ha⟩:=h;exact ⟨F,cs,hr,zbF ha hx⟩
theorem AtB.at {W:World} {b o:Nat} {x:α} (h:AtB W w b o x) (hx:Ext W w):At w b o x:=by
 obtain ⟨F,cs,hr,ha⟩:=h;exact ⟨F,cs,zb8 hr hx,ha⟩
theorem AtB.fst {β:Type} [Rep β] {W:World} {b o:Nat} {p:α×β} (h:AtB W w b o p):AtB W w b o p.1:=by
 obtain ⟨F,cs,⟨F1,F2,c1,c2,rfl,rfl,h1,h2⟩,hr⟩:=h;exact ⟨F1,c1,h1,(zaz hr).1⟩
theorem AtB.snd {β:Type} [Rep β] {W:World} {b o:Nat} {p:α×β} (h:AtB W w b o p):AtB W w b (o+Rep.size α) p.2:=by
 obtain ⟨F,cs,⟨F1,F2,c1,c2,rfl,rfl,h1,h2⟩,hr⟩:=h;have:=(zaz hr).2;rw [Rep.len h1] at this;exact ⟨F2,c2,h2,this⟩
theorem zen {W:World} {t by_ b o:Nat} {x:α} {K:Value→Prop} (ht:tyI P t=some (Rep.size α,by_,Rep.agg α)) (h:AtB W w0 b o x) (hW:Ext W w0) (hx:Ext w0 w) (k:∀ v,Is W v x→K v) :
   RD P (Instr.loadAt t (.pointer (some ⟨b,o,none⟩))) w K:=by
 obtain ⟨F,cs,hr,hc⟩:=h;exact za3 (λw' hx'=>zej ht (zb8 hr (hW.trans (hx.t hx'))) (zbF hc (hx.t hx'))) (k _ ⟨F,cs,hr,rfl⟩)
theorem zfI {W w1:World} {g:Nat} {x:α} {t:TypeId} (h:Is W v x) (hV:Var P t w1 g v) (ha:Rep.agg α=true):AtB W w1 g 0 x:=by
 obtain ⟨F,cs,hr,rfl⟩:=h;obtain ⟨e,cs',_,hB,hv,_⟩:=hV
 have:cs'=cs:=by
   simp only [mkv,ha,cond_true,Value.agg.injEq] at hv;have:=congrArg Array.toList hv;simpa using this.symm
 subst this;exact ⟨F,_,hr,hB.range⟩
theorem zsc [RepZ α] {t:TypeId} {fs:Array Field} {K:Value→Prop} (hu:P.underlying t=some (.struct fs)) (hz:zcu P t=some (RepZ.zc α)) (hf:(fs.toList.all λf=>(P.info? f.type).isSome)=true) (ha:Rep.agg α=true)
   (k:∀ v,Is w v (RepZ.zv:α)→K v):RD P (Instr.build t #[]) w K:=by
 unfold zcu at hz;cases hi:P.info? t with
 | none=>simp [hi] at hz
 | some i=>
   simp only [hi] at hz;obtain ⟨z,hz',hzc⟩:=Option.map_eq_some_iff.1 hz
   have hm:∀ w',∃ ps,(fs.mapM λf=>do pure (f.offset,←sizeOf f.type):Sem (Array (Nat×Nat))).run P w'=.ok ps w':=by
     intro w'
     have:∀ l:List Field,(l.all λf=>(P.info? f.type).isSome)=true→∃ ps,(l.mapM λf=>do pure (f.offset,←sizeOf f.type):Sem (List (Nat×Nat))).run P w'=.ok ps w':=by
       intro l
       induction l with
       | nil=>intro _;exact ⟨[],by simp⟩
       | cons f l ih=>
         intro h;simp only [List.all_cons,Bool.and_eq_true] at h;obtain ⟨j,hj⟩:=Option.isSome_iff_exists.1 h.1;obtain ⟨ps,hps⟩:=ih h.2;have hsz:(sizeOf f.type).run P w'=.ok j.size w':=by simp [sizeOf,typeInfo,hj]
         exact ⟨(f.offset,j.size) :: ps,by simp only [List.mapM_cons,Sem.run_bind,hsz,Result.andThen_ok,Sem.run_pure,hps]⟩
     obtain ⟨ps,hps⟩:=this fs.toList hf;exact ⟨ps.toArray,by rw [Array.mapM_eq_mapM_toList];simp only [map_eq_pure_bind,Sem.run_bind,hps,Result.andThen_ok,Sem.run_pure]⟩
   refine za3 (v:=mkv α (RepZ.zc α)) (λw' _=>?_) (k _ ⟨[],_,RepZ.zr w,rfl⟩);obtain ⟨ps,hps⟩:=hm w';have e:z.cells=(RepZ.zc α).toArray:=by rw [←hzc]
   have hzv:(zeroValue t).run P w'=.ok z w':=by simp [zeroValue,typeInfo,hi,hz']
   simp only [Instr.build,Sem.run_bind,hzv,Result.andThen_ok,run_underlying hu,hps];simp [Instr.fill,mkv,ha,e]
end
end Go.Sh
namespace Go.Proofs.YtakjaofncelghaaGreat
open Go Go.Sh Go.Proofs
open Rep (rep)
def zaU:Nat→DTerm→Bool
 | n,.mk k num s ks=>
   if k=1 then decide (0≤num∧num≤1000000000)&&decide (s=ByteArray.mk #[])&&decide ((ks.length:Int)=0)
   else if k=2 then decide (num=0)&&zbk s&&decide ((ks.length:Int)=0)
   else decide (3≤k∧k≤9)&&decide (num=0)&&decide (s=ByteArray.mk #[])&&decide ((ks.length:Int)=if k=8 then 1 else 2) &&
     (match n with | 0=>false | m+1=>ks.all (zaU m))
theorem zd6 {n:Nat} {t:DTerm} (h:t.kind=1):zaU n t=(decide (0≤t.num∧t.num≤1000000000)&&decide (t.name=ByteArray.mk #[])&&decide ((t.kids.length:Int)=0)):=by
 obtain ⟨k,num,s,ks⟩:=t;have:k=1:=h;unfold zaU;rw [if_pos this];rfl
theorem zfs {n:Nat} {t:DTerm} (h:t.kind=2):zaU n t=(decide (t.num=0)&&zbk t.name&&decide ((t.kids.length:Int)=0)):=by
 obtain ⟨k,num,s,ks⟩:=t;have:k=2:=h;unfold zaU;rw [if_neg (by omega),if_pos this];rfl
theorem zbg {n:Nat} {t:DTerm} (h1:¬t.kind=1) (h2:¬t.kind=2):zaU n t =
   (decide (3≤t.kind∧t.kind≤9)&&decide (t.num=0)&&decide (t.name=ByteArray.mk #[])&&decide ((t.kids.length:Int)=if t.kind=8 then 1 else 2)&&(match n with | 0=>false | m+1=>t.kids.all (zaU m))):=by
 obtain ⟨k,num,s,ks⟩:=t;have h1:¬k=1:=h1;have h2:¬k=2:=h2;unfold zaU;rw [if_neg h1,if_neg h2];rfl
theorem ziO {α:Type} {p:α→Bool} {l:List α} {k:Nat} (hk:k<l.length) (h:(l.take k).all p=true) (hp:p l[k]=true):(l.take (k+1)).all p=true:=by
 rw [tk hk,List.all_append,h];simp [hp]
theorem zg9 {α:Type} {p:α→Bool} {l:List α} {k:Nat} (hk:k<l.length) (hp:p l[k]=false):l.all p=false:=by
 rw [List.all_eq_false];exact ⟨_,List.getElem_mem hk,by simp [hp]⟩
theorem ziP {α:Type} {p:α→Bool} {l:List α} {k:Nat} (hk:l.length≤k) (h:(l.take k).all p=true):l.all p=true:=by
 rwa [List.take_of_length_le hk] at h
def zxq (f:Nat) (n:Nat):Prop:=∀ {w W:World} {v:Value} {t:DTerm} {d:Int},Is W v t→Ext W w→d=(n:Int) →
 CALL tp f [v,.int .i64 d] w λr w'=>Ext w w'∧r=.bool (zaU n t)
def F242 (a0 a1:Value) (w:World) (R:VW):Prop:=
 oX 116 a0 w λx2 w=>
 JOIN [] (λJ18=>
 rF 116 x2 0 w λx7=>
 rL 3 x7 w λx8=>
 rQ x8 (iV 1) w λx10=>
 BR x10
 (rF 116 x2 1 w λx11=>
 rL 3 x11 w λx12=>
 rB .geq 3 T0 U0 x12 (iV 0) w λx13=>
 BR x13
 (rF 116 x2 1 w λx15=>
 rL 3 x15 w λx16=>
 rB .leq 3 T0 U0 x16 (iV 1000000000) w λx17=>
 BR x17
 (rF 116 x2 2 w λx20=>
 rL 9 x20 w λx21=>
 rB .eql 9 T0 U0 x21 (Value.string (ByteArray.mk #[])) w λx22=>
 BR x22
 (rF 116 x2 3 w λx25=>
 rL 114 x25 w λx26=>
 rN 114 3 x26 w λx27=>
 rQ x27 (iV 0) w λx28=>
 R x28 w)
 (R vF w))
 (R vF w))
 (R vF w))
 (rQ x8 (iV 2) w λx31=>
 BR x31
 (rF 116 x2 1 w λx32=>
 rL 3 x32 w λx33=>
 rQ x33 (iV 0) w λx34=>
 BR x34
 (rF 116 x2 2 w λx36=>
 rL 9 x36 w λx37=>
 cL 241 [x37] w λx38 w=>
 BR x38
 (rF 116 x2 3 w λx41=>
 rL 114 x41 w λx42=>
 rN 114 3 x42 w λx43=>
 rQ x43 (iV 0) w λx44=>
 R x44 w)
 (R vF w))
 (R vF w))
 (rQ x8 (iV 3) w λx47=>
 BR x47
 (rF 116 x2 3 w λx53=>
 rL 114 x53 w λx54=>
 rN 114 3 x54 w λx55=>
 rB .neq 3 T0 U0 x55 (iV 2) w λx56=>
 BR x56
 (R vF w)
 (J18 [] w))
 (rQ x8 (iV 4) w λx48=>
 BR x48
 (rF 116 x2 3 w λx53=>
 rL 114 x53 w λx54=>
 rN 114 3 x54 w λx55=>
 rB .neq 3 T0 U0 x55 (iV 2) w λx56=>
 BR x56
 (R vF w)
 (J18 [] w))
 (rQ x8 (iV 5) w λx49=>
 BR x49
 (rF 116 x2 3 w λx53=>
 rL 114 x53 w λx54=>
 rN 114 3 x54 w λx55=>
 rB .neq 3 T0 U0 x55 (iV 2) w λx56=>
 BR x56
 (R vF w)
 (J18 [] w))
 (rQ x8 (iV 6) w λx50=>
 BR x50
 (rF 116 x2 3 w λx53=>
 rL 114 x53 w λx54=>
 rN 114 3 x54 w λx55=>
 rB .neq 3 T0 U0 x55 (iV 2) w λx56=>
 BR x56
 (R vF w)
 (J18 [] w))
 (rQ x8 (iV 7) w λx51=>
 BR x51
 (rF 116 x2 3 w λx53=>
 rL 114 x53 w λx54=>
 rN 114 3 x54 w λx55=>
 rB .neq 3 T0 U0 x55 (iV 2) w λx56=>
 BR x56
 (R vF w)
 (J18 [] w))
 (rQ x8 (iV 9) w λx52=>
 BR x52
 (rF 116 x2 3 w λx53=>
 rL 114 x53 w λx54=>
 rN 114 3 x54 w λx55=>
 rB .neq 3 T0 U0 x55 (iV 2) w λx56=>
 BR x56
 (R vF w)
 (J18 [] w))
 (rQ x8 (iV 8) w λx58=>
 BR x58
 (rF 116 x2 3 w λx59=>
 rL 114 x59 w λx60=>
 rN 114 3 x60 w λx61=>
 rB .neq 3 T0 U0 x61 (iV 1) w λx62=>
 BR x62
 (R vF w)
 (J18 [] w))
 (R vF w)))))))))) (λu18 w=>
 rF 116 x2 1 w λx63=>
 rL 3 x63 w λx64=>
 rB .neq 3 T0 U0 x64 (iV 0) w λx65=>
 BR x65
 (R vF w)
 (rF 116 x2 2 w λx67=>
 rL 9 x67 w λx68=>
 rB .neq 9 T0 U0 x68 (Value.string (ByteArray.mk #[])) w λx69=>
 BR x69
 (R vF w)
 (rQ a1 (iV 0) w λx73=>
 BR x73
 (R vF w)
 (rF 116 x2 3 w λx75=>
 rL 114 x75 w λx76=>
 rN 114 3 x76 w λx77=>
 LOOPI [78] [(iV 0)] w λu21 w n21=>
 rC (u21 78) x77 w λx79=>
 BR x79
 (rX 114 x76 (u21 78) w λx80=>
 rL 116 x80 w λx81=>
 oP (aL 116) w λx6 w=>
 oS 116 x6 x81 w λw=>
 rL 116 x6 w λx82=>
 rB .sub 3 T0 U0 a1 (iV 1) w λx84=>
 cL 242 [x82,x84] w λx85 w=>
 rT x85 w λx86=>
 BR x86
 (R vF w)
 (rI (u21 78) w λx87=>
 n21 [x87] w))
 (R vT w)))))
theorem F242_call {a0 a1 w R} (h:F242 a0 a1 w R):cL 242 [a0,a1] w R:=co (g:=(kf [(18,9223372036854775696,[])] [(21,309182778366441411431104592,[78])] [])) Tryz.func242 h
theorem zlx {w:World} {v0:Value} {W0:World} {t:DTerm} {d:Int} {n:Nat} (h0:Is W0 v0 t) (e0:Ext W0 w) (hd:d=(n:Int)) (ih:∀ m,m+1=n→zxq 242 m) (hn:n≤6) :
   CALL tp 242 [v0,.int .i64 d] w λr w'=>Ext w w'∧(r=.bool (zaU n t)):=by
 refine F242_call ?_;unfold F242;refine zao za4 rfl h0 e0 λw1_ η1 hA2 hV2=>?_;refine JOIN.mk (λus w'=>us=[]∧Ext w1_ w'∧(3≤t.kind∧t.kind≤9∧(t.kids.length:Int)=(if t.kind=8 then 1 else 2))) ?_ ?_
 · refine zaa zcZ ?_
   refine zac ty3 (zbn hA2) (Ext.refl w1_) λhI8=>?_;refine zag ?_;refine br (λc1=>?_) (λc1=>?_)
   · refine zaa zdF ?_
     refine zac ty3 (zbM hA2) (Ext.refl w1_) λhI12=>?_;refine zbW ?_;refine br (λc2=>?_) (λc2=>?_)
     · refine zaa zdF ?_
       refine zac ty3 (zbM hA2) (Ext.refl w1_) λhI16=>?_;refine zdZ ?_;refine br (λc3=>?_) (λc3=>?_)
       · refine zaa zda ?_
         refine zaq ty9 (zbv hA2) (Ext.refl w1_) λhS21=>?_;refine zaS ?_;refine br (λc4=>?_) (λc4=>?_)
         · refine zaa zbi ?_
           refine zab zdj (zaG hA2) (Ext.refl w1_) λv26 h26=>?_;have hln27:=zah h26;refine zae zgq h26 ?_;refine zag ?_;refine ⟨η1,?_⟩;rw [zd6 c1];simp only [c2,c3,c4,and_self,decide_true,Bool.true_and]
         refine ⟨η1,?_⟩;rw [zd6 c1];simp only [c4,decide_false,Bool.and_false,Bool.false_and]
       refine ⟨η1,?_⟩;rw [zd6 c1];simp only [c3,and_false,decide_false,Bool.false_and]
     refine ⟨η1,?_⟩;rw [zd6 c1];simp only [c2,false_and,decide_false,Bool.false_and]
   refine zag ?_;refine br (λc5=>?_) (λc5=>?_)
   · refine zaa zdF ?_
     refine zac ty3 (zbM hA2) (Ext.refl w1_) λhI33=>?_;refine zag ?_;refine br (λc6=>?_) (λc6=>?_)
     · refine zaa zda ?_
       refine zaq ty9 (zbv hA2) (Ext.refl w1_) λhS37=>?_;refine (zg6 ).mono ?_;rintro _ w3_ ⟨η3,rfl⟩;refine zcd (λc7=>?_) (λc7=>?_)
       · refine zaa zbi ?_
         refine zab zdj (zaG hA2) η3 λv42 h42=>?_;have hln43:=zah h42;refine zae zgq h42 ?_;refine zag ?_;refine ⟨(η1.t η3),?_⟩;rw [zfs c5];simp only [c6,c7,decide_true,Bool.true_and]
       refine ⟨(η1.t η3),?_⟩;rw [zfs c5];simp only [c6,c7,decide_true,Bool.true_and,Bool.false_and]
     refine ⟨η1,?_⟩;rw [zfs c5];simp only [c6,decide_false,Bool.false_and]
   refine zag ?_;refine br (λc8=>?_) (λc8=>?_)
   · refine zaa zbi ?_
     refine zab zdj (zaG hA2) (Ext.refl w1_) λv54 h54=>?_;have hln55:=zah h54;refine zae zgq h54 ?_;refine zaV ?_;refine br (λc9=>?_) (λc9=>?_)
     · refine ⟨η1,?_⟩
       rw [zbg c1 c5];simp [show ¬t.kind=8 by omega,show ¬(t.kids.length:Int)=2 from c9]
     refine ⟨by simp,Ext.refl w1_,?_⟩;split<;>omega
   refine zag ?_;refine br (λc10=>?_) (λc10=>?_)
   · refine zaa zbi ?_
     refine zab zdj (zaG hA2) (Ext.refl w1_) λv54 h54=>?_;have hln55:=zah h54;refine zae zgq h54 ?_;refine zaV ?_;refine br (λc11=>?_) (λc11=>?_)
     · refine ⟨η1,?_⟩
       rw [zbg c1 c5];simp [show ¬t.kind=8 by omega,show ¬(t.kids.length:Int)=2 from c11]
     refine ⟨by simp,Ext.refl w1_,?_⟩;split<;>omega
   refine zag ?_;refine br (λc12=>?_) (λc12=>?_)
   · refine zaa zbi ?_
     refine zab zdj (zaG hA2) (Ext.refl w1_) λv54 h54=>?_;have hln55:=zah h54;refine zae zgq h54 ?_;refine zaV ?_;refine br (λc13=>?_) (λc13=>?_)
     · refine ⟨η1,?_⟩
       rw [zbg c1 c5];simp [show ¬t.kind=8 by omega,show ¬(t.kids.length:Int)=2 from c13]
     refine ⟨by simp,Ext.refl w1_,?_⟩;split<;>omega
   refine zag ?_;refine br (λc14=>?_) (λc14=>?_)
   · refine zaa zbi ?_
     refine zab zdj (zaG hA2) (Ext.refl w1_) λv54 h54=>?_;have hln55:=zah h54;refine zae zgq h54 ?_;refine zaV ?_;refine br (λc15=>?_) (λc15=>?_)
     · refine ⟨η1,?_⟩
       rw [zbg c1 c5];simp [show ¬t.kind=8 by omega,show ¬(t.kids.length:Int)=2 from c15]
     refine ⟨by simp,Ext.refl w1_,?_⟩;split<;>omega
   refine zag ?_;refine br (λc16=>?_) (λc16=>?_)
   · refine zaa zbi ?_
     refine zab zdj (zaG hA2) (Ext.refl w1_) λv54 h54=>?_;have hln55:=zah h54;refine zae zgq h54 ?_;refine zaV ?_;refine br (λc17=>?_) (λc17=>?_)
     · refine ⟨η1,?_⟩
       rw [zbg c1 c5];simp [show ¬t.kind=8 by omega,show ¬(t.kids.length:Int)=2 from c17]
     refine ⟨by simp,Ext.refl w1_,?_⟩;split<;>omega
   refine zag ?_;refine br (λc18=>?_) (λc18=>?_)
   · refine zaa zbi ?_
     refine zab zdj (zaG hA2) (Ext.refl w1_) λv54 h54=>?_;have hln55:=zah h54;refine zae zgq h54 ?_;refine zaV ?_;refine br (λc19=>?_) (λc19=>?_)
     · refine ⟨η1,?_⟩
       rw [zbg c1 c5];simp [show ¬t.kind=8 by omega,show ¬(t.kids.length:Int)=2 from c19]
     refine ⟨by simp,Ext.refl w1_,?_⟩;split<;>omega
   refine zag ?_;refine br (λc20=>?_) (λc20=>?_)
   · refine zaa zbi ?_
     refine zab zdj (zaG hA2) (Ext.refl w1_) λv60 h60=>?_;have hln61:=zah h60;refine zae zgq h60 ?_;refine zaV ?_;refine br (λc21=>?_) (λc21=>?_)
     · refine ⟨η1,?_⟩
       rw [zbg c1 c5];simp [c20,show ¬(t.kids.length:Int)=1 from c21]
     refine ⟨by simp,Ext.refl w1_,?_⟩;split<;>omega
   refine ⟨η1,?_⟩;rw [zbg c1 c5];simp [show ¬(3≤t.kind∧t.kind≤9) by omega]
 rintro uj18 w2_ ⟨hu,η3,hk1,hk2,hk3⟩;try replace hu:=zbG hu
 clear hu;refine zaa zdF ?_;refine zac ty3 (zbM hA2) η3 λhI64=>?_;refine zaV ?_;refine br (λc22=>?_) (λc22=>?_)
 · refine ⟨(η1.t η3),?_⟩
   rw [zbg (by omega) (by omega)];simp [c22]
 refine zaa zda ?_;refine zaq ty9 (zbv hA2) η3 λhS68=>?_;refine zlm ?_;refine br (λc23=>?_) (λc23=>?_)
 · refine ⟨(η1.t η3),?_⟩
   rw [zbg (by omega) (by omega)];simp [c23]
 refine zag ?_;refine br (λc24=>?_) (λc24=>?_)
 · refine ⟨(η1.t η3),?_⟩
   rw [zbg (by omega) (by omega)];simp [show n=0 by omega]
 refine zaa zbi ?_;refine zab zdj (zaG hA2) η3 λv76 h76=>?_;have hln77:=zah h76;refine zae zgq h76 ?_;refine zat (t.kids.length) (λk us w'=>us=[.int .i64 (k:Int)]∧Ext w2_ w'∧((t.kids.take k).all (zaU (n-1))=true)) (0) (by omega) ⟨by simp,Ext.refl w2_,by simp⟩ ?_;rintro k m21 uu21 w4_ hk21 ⟨hu,η4,hinv⟩;try replace hu:=zbG hu
 try rw [hu]
 try clear hu
 refine zaf ?_;refine br (λc25=>?_) (λc25=>?_)
 · refine zad zgq za4 h76 (by omega) λb80 o80 h80=>?_
   refine zab za4 h80 (η3.t η4) λv81 h81=>?_;refine zcX zqC rfl za4 rfl h81 (η3.t η4) λw5_ η5 hA6 hV6=>?_;refine zau hV6 (Ext.refl w5_) ?_;refine za0 (by unfold I64;omega) ?_;refine (ih (n-1) (by omega) h81 (η3.t (η4.t η5)) (by omega)).mono ?_;rintro _ w6_ ⟨η6,rfl⟩;refine za1 ?_;refine zcd (λc26=>?_) (λc26=>?_)
   · refine ⟨(η1.t (η3.t (η4.t (η5.t η6)))),?_⟩
     rw [zbg (by omega) (by omega)];obtain ⟨m,rfl⟩:∃ m,n=m+1:=⟨n-1,by omega⟩;rw [Bool.not_eq_true',Nat.add_sub_cancel] at c26;simp only [zg9 (by omega) c26,Bool.and_false]
   have hln:=zah h76;refine zaB ?_;refine ⟨m21-1,by omega,k+1,by omega,by simp,(η4.t (η5.t η6)),?_⟩;exact ziO (by omega) hinv (by simpa using c26)
 refine ⟨(η1.t (η3.t η4)),?_⟩;rw [zbg (by omega) (by omega)];obtain ⟨m,rfl⟩:∃ m,n=m+1:=⟨n-1,by omega⟩;rw [Nat.add_sub_cancel] at hinv;simp only [show 3≤t.kind∧t.kind≤9 from ⟨hk1,hk2⟩,Decidable.not_not.1 c22,Decidable.not_not.1 c23,hk3,ziP (by omega) hinv,and_self,decide_true,Bool.and_self]
theorem zjo:∀ (n:Nat),n≤6→zxq 242 n
 | n,hn=>by intro h e hd;exact zlx h e hd (λm hm=>zjo m (by omega)) hn
def F182 (a0:Value) (w:World) (R:VW):Prop:=
 oX 116 a0 w λx1 w=>
 rL 116 x1 w λx3=>
 cL 242 [x3,(iV 6)] w λx4 w=>
 R x4 w
theorem F182_call {a0 w R} (h:F182 a0 w R):cL 182 [a0] w R:=co (g:=(kf [] [] [])) Tryz.func182 h
theorem zft {w:World} {v0:Value} {W0:World} {t:DTerm}  (h0:Is W0 v0 t) (e0:Ext W0 w)  :
   CALL tp 182 [v0] w λr w'=>Ext w w'∧(r=.bool (zaU 6 t)):=by
 refine F182_call ?_;unfold F182;refine zao za4 rfl h0 e0 λw1_ η1 hA1 hV1=>?_;refine zau hV1 (Ext.refl w1_) ?_;refine ((zjo 6 (by omega)) h0 (e0.t η1) rfl).mono ?_;rintro _ w2_ ⟨η2,rfl⟩;refine ⟨(η1.t η2),?_⟩;rfl
def F221 (a0 a1:Value) (w:World) (R:VW):Prop:=
 oX 116 a0 w λx2 w=>
 rF 116 x2 0 w λx7=>
 rL 3 x7 w λx8=>
 rQ x8 (iV 1) w λx10=>
 BR x10
 (rF 116 x2 1 w λx11=>
 rL 3 x11 w λx12=>
 cL 151 [x12,(iV 0),(iV 1000000000)] w λx13 w=>
 BR x13
 (rF 116 x2 2 w λx15=>
 rL 9 x15 w λx16=>
 rB .eql 9 T0 U0 x16 (Value.string (ByteArray.mk #[])) w λx17=>
 BR x17
 (rF 116 x2 3 w λx20=>
 rL 114 x20 w λx21=>
 rN 114 3 x21 w λx22=>
 rQ x22 (iV 0) w λx23=>
 R x23 w)
 (R vF w))
 (R vF w))
 (rQ x8 (iV 2) w λx26=>
 BR x26
 (rF 116 x2 1 w λx27=>
 rL 3 x27 w λx28=>
 rQ x28 (iV 0) w λx29=>
 BR x29
 (rF 116 x2 2 w λx31=>
 rL 9 x31 w λx32=>
 cL 219 [x32] w λx33 w=>
 BR x33
 (rF 116 x2 3 w λx36=>
 rL 114 x36 w λx37=>
 rN 114 3 x37 w λx38=>
 rQ x38 (iV 0) w λx39=>
 R x39 w)
 (R vF w))
 (R vF w))
 (JOIN [5] (λJ9=>
 rF 116 x2 0 w λx41=>
 rL 3 x41 w λx42=>
 rQ x42 (iV 8) w λx43=>
 BR x43
 (J9 [(iV 1)] w)
 (J9 [(iV 2)] w)) (λu9 w=>
 rF 116 x2 0 w λx44=>
 rL 3 x44 w λx45=>
 cL 151 [x45,(iV 3),(iV 9)] w λx46 w=>
 rT x46 w λx47=>
 BR x47
 (R vF w)
 (rF 116 x2 1 w λx49=>
 rL 3 x49 w λx50=>
 rB .neq 3 T0 U0 x50 (iV 0) w λx51=>
 BR x51
 (R vF w)
 (rF 116 x2 2 w λx54=>
 rL 9 x54 w λx55=>
 rB .neq 9 T0 U0 x55 (Value.string (ByteArray.mk #[])) w λx56=>
 BR x56
 (R vF w)
 (rF 116 x2 3 w λx59=>
 rL 114 x59 w λx60=>
 rN 114 3 x60 w λx61=>
 rB .neq 3 T0 T0 x61 (u9 5) w λx63=>
 BR x63
 (R vF w)
 (rQ a1 (iV 0) w λx67=>
 BR x67
 (R vF w)
 (LOOPI [6] [(iV 0)] w λu12 w n12=>
 rF 116 x2 3 w λx70=>
 rL 114 x70 w λx71=>
 rN 114 3 x71 w λx72=>
 rC (u12 6) x72 w λx73=>
 BR x73
 (rF 116 x2 3 w λx76=>
 rL 114 x76 w λx77=>
 rX 114 x77 (u12 6) w λx79=>
 rL 116 x79 w λx80=>
 rB .sub 3 T0 U0 a1 (iV 1) w λx82=>
 cL 221 [x80,x82] w λx83 w=>
 rT x83 w λx84=>
 BR x84
 (R vF w)
 (rI (u12 6) w λx75=>
 n12 [x75] w))
 (R vT w)))))))))
theorem F221_call {a0 a1 w R} (h:F221 a0 a1 w R):cL 221 [a0,a1] w R:=co (g:=(kf [(9,15393162788896,[5])] [(12,38685035931857774884946000,[6])] [])) Tryz.func221 h
theorem zly {w:World} {v0:Value} {W0:World} {t:DTerm} {d:Int} {n:Nat} (h0:Is W0 v0 t) (e0:Ext W0 w) (hd:d=(n:Int)) (ih:∀ m,m+1=n→zxq 221 m) (hn:n≤6) :
   CALL tp 221 [v0,.int .i64 d] w λr w'=>Ext w w'∧(r=.bool (zaU n t)):=by
 refine F221_call ?_;unfold F221;refine zao za4 rfl h0 e0 λw1_ η1 hA2 hV2=>?_;refine zaa zcZ ?_;refine zac ty3 (zbn hA2) (Ext.refl w1_) λhI8=>?_;refine zag ?_;refine br (λc1=>?_) (λc1=>?_)
 · refine zaa zdF ?_
   refine zac ty3 (zbM hA2) (Ext.refl w1_) λhI12=>?_;refine (l01In_ok ).mono ?_;rintro _ w2_ ⟨η2,rfl⟩;refine br (λc2=>?_) (λc2=>?_)
   · refine zaa zda ?_
     refine zaq ty9 (zbv hA2) η2 λhS16=>?_;refine zaS ?_;refine br (λc3=>?_) (λc3=>?_)
     · refine zaa zbi ?_
       refine zab zdj (zaG hA2) η2 λv21 h21=>?_;have hln22:=zah h21;refine zae zgq h21 ?_;refine zag ?_;refine ⟨(η1.t η2),?_⟩;rw [zd6 c1];simp only [c2,c3,and_self,decide_true,Bool.true_and]
     refine ⟨(η1.t η2),?_⟩;rw [zd6 c1];simp only [c3,decide_false,Bool.and_false,Bool.false_and]
   refine ⟨(η1.t η2),?_⟩;rw [zd6 c1];simp only [c2,decide_false,Bool.false_and]
 refine zag ?_;refine br (λc4=>?_) (λc4=>?_)
 · refine zaa zdF ?_
   refine zac ty3 (zbM hA2) (Ext.refl w1_) λhI28=>?_;refine zag ?_;refine br (λc5=>?_) (λc5=>?_)
   · refine zaa zda ?_
     refine zaq ty9 (zbv hA2) (Ext.refl w1_) λhS32=>?_;refine (zb4 ).mono ?_;rintro _ w3_ ⟨η3,rfl⟩;refine zcd (λc6=>?_) (λc6=>?_)
     · refine zaa zbi ?_
       refine zab zdj (zaG hA2) η3 λv37 h37=>?_;have hln38:=zah h37;refine zae zgq h37 ?_;refine zag ?_;refine ⟨(η1.t η3),?_⟩;rw [zfs c4];simp only [c5,c6,decide_true,Bool.true_and]
     refine ⟨(η1.t η3),?_⟩;rw [zfs c4];simp only [c5,c6,decide_true,Bool.true_and,Bool.false_and]
   refine ⟨η1,?_⟩;rw [zfs c4];simp only [c5,decide_false,Bool.false_and]
 refine JOIN.mk (λus w'=>us=[.int .i64 (if t.kind=8 then 1 else 2)]∧Ext w1_ w'∧(True)) ?_ ?_
 · refine zaa zcZ ?_
   refine zac ty3 (zbn hA2) (Ext.refl w1_) λhI42=>?_;refine zag ?_;refine br (λc7=>?_) (λc7=>?_)
   · refine ⟨by rw [if_pos c7],Ext.refl w1_,?_⟩
     trivial
   refine ⟨by rw [if_neg c7],Ext.refl w1_,?_⟩;trivial
 rintro uj9 w4_ ⟨hu,η4,hinv⟩;try replace hu:=zbG hu
 try rw [hu]
 try clear hu
 refine zaa zcZ ?_;refine zac ty3 (zbn hA2) η4 λhI45=>?_;refine (l01In_ok ).mono ?_;rintro _ w5_ ⟨η5,rfl⟩;refine zav ?_;refine br (λc8=>?_) (λc8=>?_)
 · refine ⟨(η1.t (η4.t η5)),?_⟩
   rw [zbg c1 c4];simp only [c8,decide_false,Bool.false_and]
 refine zaa zdF ?_;refine zac ty3 (zbM hA2) (η4.t η5) λhI50=>?_;refine zaV ?_;refine br (λc9=>?_) (λc9=>?_)
 · refine ⟨(η1.t (η4.t η5)),?_⟩
   rw [zbg c1 c4];simp only [show ¬t.num=0 from c9,decide_false,Bool.false_and,Bool.and_false]
 refine zaa zda ?_;refine zaq ty9 (zbv hA2) (η4.t η5) λhS55=>?_;refine zlm ?_;refine br (λc10=>?_) (λc10=>?_)
 · refine ⟨(η1.t (η4.t η5)),?_⟩
   rw [zbg c1 c4];simp only [show ¬t.name=_ from c10,decide_false,Bool.false_and,Bool.and_false]
 refine zaa zbi ?_;refine zab zdj (zaG hA2) (η4.t η5) λv60 h60=>?_;have hln61:=zah h60;refine zae zgq h60 ?_;refine zaV ?_;refine br (λc11=>?_) (λc11=>?_)
 · refine ⟨(η1.t (η4.t η5)),?_⟩
   rw [zbg c1 c4];simp only [show ¬(t.kids.length:Int)=_ from c11,decide_false,Bool.false_and,Bool.and_false]
 refine zag ?_;refine br (λc12=>?_) (λc12=>?_)
 · refine ⟨(η1.t (η4.t η5)),?_⟩
   rw [zbg c1 c4];simp [show n=0 by omega]
 refine zat (t.kids.length) (λk us w'=>us=[.int .i64 (k:Int)]∧Ext w5_ w'∧((t.kids.take k).all (zaU (n-1))=true)) (0) (by omega) ⟨by simp,Ext.refl w5_,by simp⟩ ?_;rintro k m12 uu12 w6_ hk12 ⟨hu,η6,hinv⟩;try replace hu:=zbG hu
 try rw [hu]
 try clear hu
 refine zaa zbi ?_;refine zab zdj (zaG hA2) (η4.t (η5.t η6)) λv71 h71=>?_;have hln72:=zah h71;refine zae zgq h71 ?_;refine zaf ?_;refine br (λc13=>?_) (λc13=>?_)
 · refine zaa zbi ?_
   refine zab zdj (zaG hA2) (η4.t (η5.t η6)) λv77 h77=>?_;refine zad zgq za4 h77 (by omega) λb79 o79 h79=>?_;refine zab za4 h79 (η4.t (η5.t η6)) λv80 h80=>?_;refine za0 (by unfold I64;omega) ?_;refine (ih (n-1) (by omega) h80 (η4.t (η5.t η6)) (by omega)).mono ?_;rintro _ w7_ ⟨η7,rfl⟩;refine za1 ?_;refine zcd (λc14=>?_) (λc14=>?_)
   · refine ⟨(η1.t (η4.t (η5.t (η6.t η7)))),?_⟩
     rw [zbg c1 c4];obtain ⟨m,rfl⟩:∃ m,n=m+1:=⟨n-1,by omega⟩;rw [Bool.not_eq_true',Nat.add_sub_cancel] at c14;simp only [zg9 (by omega) c14,Bool.and_false]
   have hln:=zah h71;refine zaB ?_;refine ⟨m12-1,by omega,k+1,by omega,by simp,(η6.t η7),?_⟩;exact ziO (by omega) hinv (by simpa using c14)
 refine ⟨(η1.t (η4.t (η5.t η6))),?_⟩;rw [zbg c1 c4];obtain ⟨m,rfl⟩:∃ m,n=m+1:=⟨n-1,by omega⟩;rw [Nat.add_sub_cancel] at hinv;simp only [Decidable.not_not.1 c8,Decidable.not_not.1 c9,Decidable.not_not.1 c10,Decidable.not_not.1 c11,ziP (by omega) hinv,and_self,decide_true,Bool.and_self]
theorem zjp:∀ (n:Nat),n≤6→zxq 221 n
 | n,hn=>by intro h e hd;exact zly h e hd (λm hm=>zjp m (by omega)) hn
def F152 (a0:Value) (w:World) (R:VW):Prop:=
 oX 116 a0 w λx1 w=>
 rL 116 x1 w λx3=>
 cL 221 [x3,(iV 6)] w λx4 w=>
 R x4 w
theorem F152_call {a0 w R} (h:F152 a0 w R):cL 152 [a0] w R:=co (g:=(kf [] [] [])) Tryz.func152 h
theorem zco {w:World} {v0:Value} {W0:World} {t:DTerm}  (h0:Is W0 v0 t) (e0:Ext W0 w)  :
   CALL tp 152 [v0] w λr w'=>Ext w w'∧(r=.bool (zaU 6 t)):=by
 refine F152_call ?_;unfold F152;refine zao za4 rfl h0 e0 λw1_ η1 hA1 hV1=>?_;refine zau hV1 (Ext.refl w1_) ?_;refine ((zjp 6 (by omega)) h0 (e0.t η1) rfl).mono ?_;rintro _ w2_ ⟨η2,rfl⟩;refine ⟨(η1.t η2),?_⟩;rfl
def term0:DTerm:=.mk 0 0 (ByteArray.mk #[]) []
def F184 (a0:Value) (w:World) (R:VW):Prop:=
 oX 116 a0 w λx1 w=>
 rF 116 x1 0 w λx3=>
 rL 3 x3 w λx4=>
 rQ x4 (iV 0) w λx5=>
 BR x5
 (rF 116 x1 1 w λx7=>
 rL 3 x7 w λx8=>
 rQ x8 (iV 0) w λx9=>
 BR x9
 (rF 116 x1 2 w λx12=>
 rL 9 x12 w λx13=>
 rB .eql 9 T0 U0 x13 (Value.string (ByteArray.mk #[])) w λx14=>
 BR x14
 (rF 116 x1 3 w λx17=>
 rL 114 x17 w λx18=>
 rN 114 3 x18 w λx19=>
 rQ x19 (iV 0) w λx20=>
 R x20 w)
 (R vF w))
 (R vF w))
 (R vF w)
theorem F184_call {a0 w R} (h:F184 a0 w R):cL 184 [a0] w R:=co (g:=(kf [] [] [])) Tryz.func184 h
theorem zlz {w:World} {v0:Value} {W0:World} {t:DTerm}  (h0:Is W0 v0 t) (e0:Ext W0 w)  :
   CALL tp 184 [v0] w λr w'=>Ext w w'∧(r=.bool (decide (t=term0))):=by
 refine F184_call ?_;unfold F184;refine zao za4 rfl h0 e0 λw1_ η1 hA1 hV1=>?_;refine zaa zcZ ?_;refine zac ty3 (zbn hA1) (Ext.refl w1_) λhI4=>?_;refine zag ?_;refine br (λc1=>?_) (λc1=>?_)
 · refine zaa zdF ?_
   refine zac ty3 (zbM hA1) (Ext.refl w1_) λhI8=>?_;refine zag ?_;refine br (λc2=>?_) (λc2=>?_)
   · refine zaa zda ?_
     refine zaq ty9 (zbv hA1) (Ext.refl w1_) λhS13=>?_;refine zaS ?_;refine br (λc3=>?_) (λc3=>?_)
     · refine zaa zbi ?_
       refine zab zdj (zaG hA1) (Ext.refl w1_) λv18 h18=>?_;have hln19:=zah h18;refine zae zgq h18 ?_;refine zag ?_;refine ⟨η1,?_⟩;congr 1;rw [decide_eq_decide,DTerm.ext_iff];exact ⟨λh=>⟨c1,c2,c3,List.eq_nil_of_length_eq_zero (by omega)⟩,λh=>by rw [h.2.2.2];rfl⟩
     refine ⟨η1,?_⟩;have:t≠term0:=λe=>c3 (by rw [e];rfl);simp [this]
   refine ⟨η1,?_⟩;have:t≠term0:=λe=>c2 (by rw [e];rfl);simp [this]
 refine ⟨η1,?_⟩;have:t≠term0:=λe=>c1 (by rw [e];rfl);simp [this]
def F154 (a0 a1:Value) (w:World) (R:VW):Prop:=
 oX 116 a0 w λx2 w=>
 oX 116 a1 w λx3 w=>
 rF 116 x2 0 w λx6=>
 rL 3 x6 w λx7=>
 rF 116 x3 0 w λx8=>
 rL 3 x8 w λx9=>
 rB .neq 3 T0 T0 x7 x9 w λx10=>
 BR x10
 (R vF w)
 (rF 116 x2 1 w λx12=>
 rL 3 x12 w λx13=>
 rF 116 x3 1 w λx14=>
 rL 3 x14 w λx15=>
 rB .neq 3 T0 T0 x13 x15 w λx16=>
 BR x16
 (R vF w)
 (rF 116 x2 2 w λx19=>
 rL 9 x19 w λx20=>
 rF 116 x3 2 w λx21=>
 rL 9 x21 w λx22=>
 rB .neq 9 T0 T0 x20 x22 w λx23=>
 BR x23
 (R vF w)
 (rF 116 x2 3 w λx26=>
 rL 114 x26 w λx27=>
 rN 114 3 x27 w λx28=>
 rF 116 x3 3 w λx29=>
 rL 114 x29 w λx30=>
 rN 114 3 x30 w λx31=>
 rB .neq 3 T0 T0 x28 x31 w λx32=>
 BR x32
 (R vF w)
 (LOOPI [5] [(iV 0)] w λu4 w n4=>
 rF 116 x2 3 w λx35=>
 rL 114 x35 w λx36=>
 rN 114 3 x36 w λx37=>
 rC (u4 5) x37 w λx38=>
 BR x38
 ((λw=>rF 116 x2 3 w λx41=>
 rL 114 x41 w λx42=>
 rX 114 x42 (u4 5) w λx44=>
 rL 116 x44 w λx45=>
 rF 116 x3 3 w λx46=>
 rL 114 x46 w λx47=>
 rX 114 x47 (u4 5) w λx49=>
 rL 116 x49 w λx50=>
 cL 154 [x45,x50] w λx51 w=>
 rT x51 w λx52=>
 BR x52
 (R vF w)
 (rI (u4 5) w λx40=>
 n4 [x40] w)) (World.drew1 w))
 (R vT w)))))
theorem F154_call {a0 a1 w R} (h:F154 a0 a1 w R):cL 154 [a0,a1] w R:=co (g:=(kf [] [(4,9007182074871856,[5])] [(6,[0,1,2,3,4,5,6,7,8,9,10,11],0)])) Tryz.func154 h
theorem zit {w:World} {v0:Value} {W0:World} {t:DTerm} {v1:Value} {W1:World} {t2:DTerm}  (h0:Is W0 v0 t) (e0:Ext W0 w) (h1:Is W1 v1 t2) (e1:Ext W1 w) (ht:t2=term0) :
   CALL tp 154 [v0,v1] w λr w'=>Ext w w'∧(r=.bool (decide (t=term0))):=by
 refine F154_call ?_;unfold F154;subst ht;refine zao za4 rfl h0 e0 λw1_ η1 hA2 hV2=>?_;refine zao za4 rfl h1 (e1.trans η1) λw2_ η2 hA3 hV3=>?_;refine zaa zcZ ?_;refine zac ty3 (zbn hA2) η2 λhI7=>?_;refine zaa zcZ ?_;refine zac ty3 (zbn hA3) (Ext.refl w2_) λhI9=>?_;refine zaV ?_;refine br (λc1=>?_) (λc1=>?_)
 · refine ⟨(η1.t η2),?_⟩
   have:t≠term0:=λe=>c1 (by rw [e]);simp [this]
 refine zaa zdF ?_;refine zac ty3 (zbM hA2) η2 λhI13=>?_;refine zaa zdF ?_;refine zac ty3 (zbM hA3) (Ext.refl w2_) λhI15=>?_;refine zaV ?_;refine br (λc2=>?_) (λc2=>?_)
 · refine ⟨(η1.t η2),?_⟩
   have:t≠term0:=λe=>c2 (by rw [e]);simp [this]
 refine zaa zda ?_;refine zaq ty9 (zbv hA2) η2 λhS20=>?_;refine zaa zda ?_;refine zaq ty9 (zbv hA3) (Ext.refl w2_) λhS22=>?_;refine zlm ?_;refine br (λc3=>?_) (λc3=>?_)
 · refine ⟨(η1.t η2),?_⟩
   have:t≠term0:=λe=>c3 (by rw [e]);simp [this]
 refine zaa zbi ?_;refine zab zdj (zaG hA2) η2 λv27 h27=>?_;have hln28:=zah h27;refine zae zgq h27 ?_;refine zaa zbi ?_;refine zab zdj (zaG hA3) (Ext.refl w2_) λv30 h30=>?_;have hln31:=zah h30;refine zae zgq h30 ?_;refine zaV ?_;refine br (λc4=>?_) (λc4=>?_)
 · refine ⟨(η1.t η2),?_⟩
   have:t≠term0:=λe=>c4 (by rw [e]);simp [this]
 refine zat (0) (λk us w'=>us=[.int .i64 (k:Int)]∧Ext w2_ w'∧(True)) (0) (by omega) ⟨by simp,Ext.refl w2_,trivial⟩ ?_;rintro k m4 uu4 w3_ hk4 ⟨hu,η3,hinv⟩;try replace hu:=zbG hu
 try rw [hu]
 try clear hu
 refine zaa zbi ?_;refine zab zdj (zaG hA2) (η2.t η3) λv36 h36=>?_;have hln37:=zah h36;refine zae zgq h36 ?_;refine zaf ?_;refine br (λc5=>?_) (λc5=>?_)
 · have η4:=zai w3_
   exact absurd c5 (by have:(term0.kids.length:Int)=0:=rfl;omega)
 refine ⟨(η1.t (η2.t η3)),?_⟩;have:t=term0:=DTerm.ext_iff.2 ⟨Decidable.not_not.1 c1,Decidable.not_not.1 c2,Decidable.not_not.1 c3,List.eq_nil_of_length_eq_zero (by have:(term0.kids.length:Int)=0:=rfl;omega)⟩;simp [this]
def plc (s:ByteArray):List ByteArray→Int
 | []=>-1
 | x :: l=>if x=s then 0 else if plc s l<0 then -1 else plc s l+1
theorem ziQ {s:ByteArray} {l:List ByteArray} (h:s∉l):plc s l=-1:=by
 induction l with
 | nil=>rfl
 | cons x l ih=>
   simp only [List.mem_cons,not_or] at h;rw [plc,if_neg (λe=>h.1 e.symm),ih h.2];rfl
theorem zkN {s:ByteArray}:∀ {l:List ByteArray} {k:Nat} (hk:k<l.length),s∉l.take k→l[k]=s→plc s l=k
 | x :: l,0,_,_,h=>by simp only [List.getElem_cons_zero] at h;rw [plc,if_pos h];rfl
 | x :: l,k+1,hk,hn,h=>by
   simp only [List.take_succ_cons,List.mem_cons,not_or] at hn;have ih:=zkN (by simpa using hk) hn.2 (by simpa using h);rw [plc,if_neg (λe=>hn.1 e.symm),ih,if_neg (by omega)];omega
theorem zjq {s:ByteArray} {l:List ByteArray}:-1≤plc s l∧plc s l<l.length:=by
 induction l with
 | nil=>simp [plc]
 | cons x l ih=>
   rw [plc];split
   · simp only [List.length_cons];omega
   split<;>simp only [List.length_cons]<;>omega
theorem zeS {s:ByteArray} {l:List ByteArray}:0≤plc s l↔s∈l:=by
 induction l with
 | nil=>simp [plc]
 | cons x l ih=>
   rw [plc];split
   · rename_i h;simp [h]
   rename_i h
   rw [List.mem_cons,←ih];have:¬s=x:=λe=>h e.symm;simp only [this,false_or];split<;>omega
theorem zcA {l:List ByteArray} {k:Nat} {y:ByteArray} (hk:k<l.length) (h:y∉l.take k) (c:¬l[k]=y):y∉l.take (k+1):=by
 rw [tk hk];simp only [List.mem_append,List.mem_cons,List.not_mem_nil,or_false,not_or];exact ⟨h,λe=>c e.symm⟩
def F89 (a0 a1:Value) (w:World) (R:VW):Prop:=
 LOOPI [5] [(iV 0)] w λu2 w n2=>
 rN 24 3 a0 w λx8=>
 rC (u2 5) x8 w λx9=>
 BR x9
 (rX 24 a0 (u2 5) w λx14=>
 rL 9 x14 w λx15=>
 rB .eql 9 T0 T0 x15 a1 w λx17=>
 BR x17
 (R (u2 5) w)
 (rI (u2 5) w λx11=>
 n2 [x11] w))
 (R (iV (-1)) w)
theorem F89_call {a0 a1 w R} (h:F89 a0 a1 w R):cL 89 [a0,a1] w R:=co (g:=(kf [] [(2,524272,[5])] [])) Tryz.func89 h
theorem zb9 {w:World} {v0:Value} {W0:World} {l:(List ByteArray)} {s:ByteArray}  (h0:Is W0 v0 l) (e0:Ext W0 w)  :
   CALL tp 89 [v0,.string s] w λr w'=>Ext w w'∧(r=.int .i64 (plc s l)):=by
 refine F89_call ?_;unfold F89;refine zat (l.length) (λk us w'=>us=[.int .i64 (k:Int)]∧Ext w w'∧(s∉l.take k)) (0) (by omega) ⟨by simp,Ext.refl w,by simp⟩ ?_;rintro k m2 uu2 w1_ hk2 ⟨hu,η1,hinv⟩;try replace hu:=zbG hu
 try rw [hu]
 try clear hu
 have hln8:=zah h0;refine zae u24 h0 ?_;refine zaf ?_;refine br (λc1=>?_) (λc1=>?_)
 · refine zad u24 ty9 h0 (by omega) λb14 o14 h14=>?_
   refine zaq ty9 h14 (e0.t η1) λhS15=>?_;refine zaS ?_;refine br (λc2=>?_) (λc2=>?_)
   · refine ⟨η1,?_⟩
     rw [zkN (by omega) hinv c2]
   refine zaB ?_;refine ⟨m2-1,by omega,k+1,by omega,by simp,η1,?_⟩;exact zcA (by omega) hinv c2
 refine ⟨η1,?_⟩;rw [List.take_of_length_le (by omega)] at hinv;rw [ziQ hinv]
def F113 (a0 a1:Value) (w:World) (R:VW):Prop:=
 rN 24 3 a0 w λx7=>
 LOOPI [8] [(iV 0)] w λu2 w n2=>
 rC (u2 8) x7 w λx9=>
 BR x9
 (rX 24 a0 (u2 8) w λx14=>
 rL 9 x14 w λx15=>
 rB .eql 9 T0 T0 a1 x15 w λx16=>
 BR x16
 (R (u2 8) w)
 (rI (u2 8) w λx18=>
 n2 [x18] w))
 (R (iV (-1)) w)
theorem F113_call {a0 a1 w R} (h:F113 a0 a1 w R):cL 113 [a0,a1] w R:=co (g:=(kf [] [(2,524080,[8])] [])) Tryz.func113 h
theorem zgF {w:World} {v0:Value} {W0:World} {l:(List ByteArray)} {s:ByteArray}  (h0:Is W0 v0 l) (e0:Ext W0 w)  :
   CALL tp 113 [v0,.string s] w λr w'=>Ext w w'∧(r=.int .i64 (plc s l)):=by
 refine F113_call ?_;unfold F113;have hln7:=zah h0;refine zae u24 h0 ?_;refine zat (l.length) (λk us w'=>us=[.int .i64 (k:Int)]∧Ext w w'∧(s∉l.take k)) (0) (by omega) ⟨by simp,Ext.refl w,by simp⟩ ?_;rintro k m2 uu2 w1_ hk2 ⟨hu,η1,hinv⟩;try replace hu:=zbG hu
 try rw [hu]
 try clear hu
 refine zaf ?_;refine br (λc1=>?_) (λc1=>?_)
 · refine zad u24 ty9 h0 (by omega) λb14 o14 h14=>?_
   refine zaq ty9 h14 (e0.t η1) λhS15=>?_;refine zaS ?_;refine br (λc2=>?_) (λc2=>?_)
   · refine ⟨η1,?_⟩
     rw [zkN (by omega) hinv c2.symm]
   refine zaB ?_;refine ⟨m2-1,by omega,k+1,by omega,by simp,η1,?_⟩;exact zcA (by omega) hinv (λe=>c2 e.symm)
 refine ⟨η1,?_⟩;rw [List.take_of_length_le (by omega)] at hinv;rw [ziQ hinv]
def F180 (a0 a1:Value) (w:World) (R:VW):Prop:=
 cL 113 [a0,a1] w λx7 w=>
 rB .geq 3 T0 U0 x7 (iV 0) w λx8=>
 R x8 w
theorem F180_call {a0 a1 w R} (h:F180 a0 a1 w R):cL 180 [a0,a1] w R:=co (g:=(kf [] [] [])) Tryz.func180 h
theorem zc4 {w:World} {v0:Value} {W0:World} {l:(List ByteArray)} {s:ByteArray}  (h0:Is W0 v0 l) (e0:Ext W0 w)  :
   CALL tp 180 [v0,.string s] w λr w'=>Ext w w'∧(r=.bool (decide (s∈l))):=by
 refine F180_call ?_;unfold F180;refine (zgF h0 e0).mono ?_;rintro _ w1_ ⟨η1,rfl⟩;refine zbW ?_;refine ⟨η1,?_⟩;simp [zeS]
def F220 (a0 a1:Value) (w:World) (R:VW):Prop:=
 LOOPI [5] [(iV 0)] w λu2 w n2=>
 rN 24 3 a0 w λx8=>
 rC (u2 5) x8 w λx9=>
 BR x9
 (rX 24 a0 (u2 5) w λx14=>
 rL 9 x14 w λx15=>
 rB .eql 9 T0 T0 x15 a1 w λx17=>
 BR x17
 (R vT w)
 (rI (u2 5) w λx11=>
 n2 [x11] w))
 (R vF w)
theorem F220_call {a0 a1 w R} (h:F220 a0 a1 w R):cL 220 [a0,a1] w R:=co (g:=(kf [] [(2,262128,[5])] [])) Tryz.func220 h
theorem zmO {w:World} {v0:Value} {W0:World} {l:(List ByteArray)} {s:ByteArray}  (h0:Is W0 v0 l) (e0:Ext W0 w)  :
   CALL tp 220 [v0,.string s] w λr w'=>Ext w w'∧(r=.bool (decide (s∈l))):=by
 refine F220_call ?_;unfold F220;refine zat (l.length) (λk us w'=>us=[.int .i64 (k:Int)]∧Ext w w'∧(s∉l.take k)) (0) (by omega) ⟨by simp,Ext.refl w,by simp⟩ ?_;rintro k m2 uu2 w1_ hk2 ⟨hu,η1,hinv⟩;try replace hu:=zbG hu
 try rw [hu]
 try clear hu
 have hln8:=zah h0;refine zae u24 h0 ?_;refine zaf ?_;refine br (λc1=>?_) (λc1=>?_)
 · refine zad u24 ty9 h0 (by omega) λb14 o14 h14=>?_
   refine zaq ty9 h14 (e0.t η1) λhS15=>?_;refine zaS ?_;refine br (λc2=>?_) (λc2=>?_)
   · refine ⟨η1,?_⟩
     have:s∈l:=c2▸List.getElem_mem _;simp [this]
   refine zaB ?_;refine ⟨m2-1,by omega,k+1,by omega,by simp,η1,?_⟩;exact zcA (by omega) hinv c2
 refine ⟨η1,?_⟩;rw [List.take_of_length_le (by omega)] at hinv;simp [hinv]
def F178 (a0 a1:Value) (w:World) (R:VW):Prop:=
 rN 24 3 a0 w λx8=>
 rB .gtr 3 T0 T0 x8 a1 w λx10=>
 BR x10
 (R vF w)
 (rN 24 3 a0 w λx12=>
 LOOPI [13] [(iV 0)] w λu4 w n4=>
 rC (u4 13) x12 w λx14=>
 BR x14
 (rX 24 a0 (u4 13) w λx15=>
 rL 9 x15 w λx16=>
 cL 241 [x16] w λx18 w=>
 rT x18 w λx19=>
 BR x19
 (R vF w)
 (rI (u4 13) w λx20=>
 n4 [x20] w))
 (R vT w))
theorem F178_call {a0 a1 w R} (h:F178 a0 a1 w R):cL 178 [a0,a1] w R:=co (g:=(kf [] [(4,2089040,[13])] [])) Tryz.func178 h
theorem zgG {w:World} {v0:Value} {W0:World} {l:(List ByteArray)} {m:Int}  (h0:Is W0 v0 l) (e0:Ext W0 w)  :
   CALL tp 178 [v0,.int .i64 m] w λr w'=>Ext w w'∧(r=.bool (decide ((l.length:Int)≤m)&&l.all zbk)):=by
 refine F178_call ?_;unfold F178;have hln8:=zah h0;refine zae u24 h0 ?_;refine zb1 ?_;refine br (λc1=>?_) (λc1=>?_)
 · refine ⟨Ext.refl w,?_⟩
   simp [show ¬(l.length:Int)≤m by omega]
 have hln12:=zah h0;refine zae u24 h0 ?_;refine zat (l.length) (λk us w'=>us=[.int .i64 (k:Int)]∧Ext w w'∧((l.take k).all zbk=true)) (0) (by omega) ⟨by simp,Ext.refl w,by simp⟩ ?_;rintro k m4 uu4 w1_ hk4 ⟨hu,η1,hinv⟩;try replace hu:=zbG hu
 try rw [hu]
 try clear hu
 refine zaf ?_;refine br (λc2=>?_) (λc2=>?_)
 · refine zad u24 ty9 h0 (by omega) λb15 o15 h15=>?_
   refine zaq ty9 h15 (e0.t η1) λhS16=>?_;refine (zg6 ).mono ?_;rintro _ w2_ ⟨η2,rfl⟩;refine za1 ?_;refine zcd (λc3=>?_) (λc3=>?_)
   · refine ⟨(η1.t η2),?_⟩
     simp only [zg9 (p:=zbk) (l:=l) (k:=k) (by omega) (by simpa using c3),Bool.and_false]
   have hln:=zah h0;refine zaB ?_;refine ⟨m4-1,by omega,k+1,by omega,by simp,(η1.t η2),?_⟩;exact ziO (by omega) hinv (by simpa using c3)
 refine ⟨η1,?_⟩;simp [ziP (p:=zbk) (l:=l) (by omega) hinv,show (l.length:Int)≤m by omega]
def F148 (a0 a1:Value) (w:World) (R:VW):Prop:=
 rN 24 3 a0 w λx7=>
 rB .gtr 3 T0 T0 x7 a1 w λx9=>
 BR x9
 (R vF w)
 (LOOPI [5] [(iV 0)] w λu4 w n4=>
 rN 24 3 a0 w λx12=>
 rC (u4 5) x12 w λx13=>
 BR x13
 (rX 24 a0 (u4 5) w λx18=>
 rL 9 x18 w λx19=>
 cL 219 [x19] w λx20 w=>
 rT x20 w λx21=>
 BR x21
 (R vF w)
 (rI (u4 5) w λx15=>
 n4 [x15] w))
 (R vT w))
theorem F148_call {a0 a1 w R} (h:F148 a0 a1 w R):cL 148 [a0,a1] w R:=co (g:=(kf [] [(4,4193328,[5])] [])) Tryz.func148 h
theorem zeo {w:World} {v0:Value} {W0:World} {l:(List ByteArray)} {m:Int}  (h0:Is W0 v0 l) (e0:Ext W0 w)  :
   CALL tp 148 [v0,.int .i64 m] w λr w'=>Ext w w'∧(r=.bool (decide ((l.length:Int)≤m)&&l.all zbk)):=by
 refine F148_call ?_;unfold F148;have hln7:=zah h0;refine zae u24 h0 ?_;refine zb1 ?_;refine br (λc1=>?_) (λc1=>?_)
 · refine ⟨Ext.refl w,?_⟩
   simp [show ¬(l.length:Int)≤m by omega]
 refine zat (l.length) (λk us w'=>us=[.int .i64 (k:Int)]∧Ext w w'∧((l.take k).all zbk=true)) (0) (by omega) ⟨by simp,Ext.refl w,by simp⟩ ?_;rintro k m4 uu4 w1_ hk4 ⟨hu,η1,hinv⟩;try replace hu:=zbG hu
 try rw [hu]
 try clear hu
 have hln12:=zah h0;refine zae u24 h0 ?_;refine zaf ?_;refine br (λc2=>?_) (λc2=>?_)
 · refine zad u24 ty9 h0 (by omega) λb18 o18 h18=>?_
   refine zaq ty9 h18 (e0.t η1) λhS19=>?_;refine (zb4 ).mono ?_;rintro _ w2_ ⟨η2,rfl⟩;refine za1 ?_;refine zcd (λc3=>?_) (λc3=>?_)
   · refine ⟨(η1.t η2),?_⟩
     simp only [zg9 (p:=zbk) (l:=l) (k:=k) (by omega) (by simpa using c3),Bool.and_false]
   refine zaB ?_;refine ⟨m4-1,by omega,k+1,by omega,by simp,(η1.t η2),?_⟩;exact ziO (by omega) hinv (by simpa using c3)
 refine ⟨η1,?_⟩;simp [ziP (p:=zbk) (l:=l) (by omega) hinv,show (l.length:Int)≤m by omega]
instance decNodup:∀ (l:List ByteArray),Decidable l.Nodup
 | []=>isTrue List.nodup_nil
 | x :: l=>match decMemBA x l,decNodup l with
   | isFalse h,isTrue h'=>isTrue (List.nodup_cons.2 ⟨h,h'⟩)
   | isTrue h,_=>isFalse λe=>(List.nodup_cons.1 e).1 h
   | _,isFalse h=>isFalse λe=>h (List.nodup_cons.1 e).2
theorem zw3 {l:List ByteArray} {k:Nat} (hk:k<l.length) (h:l[k]∈l.drop (k+1)):¬l.Nodup:=λhn=>by
 have e:l=l.take k++(l[k] :: l.drop (k+1)):=by simp
 rw [e,List.nodup_append] at hn;exact (List.nodup_cons.1 hn.2.1).1 h
theorem zvP {l:List ByteArray} {k:Nat} (hk:k<l.length) (h:l[k]∈l.take k):¬l.Nodup:=λhn=>by
 have e:l=l.take k++(l[k] :: l.drop (k+1)):=by simp
 rw [e,List.nodup_append] at hn;exact hn.2.2 _ h _ List.mem_cons_self rfl
theorem zjr {l:List ByteArray} {k:Nat} (hk:k<l.length) (h:(l.take k).Nodup) (c:l[k]∉l.take k):(l.take (k+1)).Nodup:=by
 rw [tk hk,List.nodup_append];refine ⟨h,by simp,λa ha b hb e=>?_⟩;simp only [List.mem_cons,List.not_mem_nil,or_false] at hb;subst e;subst hb;exact c ha
theorem zgv:∀ {l:List ByteArray},(∀ (k:Nat) (hk:k<l.length),l[k]∉l.drop (k+1))→l.Nodup
 | [],_=>List.nodup_nil
 | x :: l,h=>List.nodup_cons.2 ⟨h 0 (by simp),zgv λk hk=>h (k+1) (by simpa using hk)⟩
def F179 (a0:Value) (w:World) (R:VW):Prop:=
 rN 24 3 a0 w λx6=>
 LOOPI [7] [(iV 0)] w λu2 w n2=>
 rC (u2 7) x6 w λx8=>
 BR x8
 (rX 24 a0 (u2 7) w λx10=>
 rL 9 x10 w λx11=>
 rI (u2 7) w λx14=>
 rD (Instr.sliceAt 24 a0 (some x14) none none) w λx15=>
 cL 180 [x15,x11] w λx17 w=>
 BR x17
 (R vT w)
 (rI (u2 7) w λx18=>
 n2 [x18] w))
 (R vF w)
theorem F179_call {a0 w R} (h:F179 a0 w R):cL 179 [a0] w R:=co (g:=(kf [] [(2,524188,[7])] [])) Tryz.func179 h
theorem zgH {w:World} {v0:Value} {W0:World} {l:(List ByteArray)}  (h0:Is W0 v0 l) (e0:Ext W0 w)  :
   CALL tp 179 [v0] w λr w'=>Ext w w'∧(r=.bool (decide (¬l.Nodup))):=by
 refine F179_call ?_;unfold F179;have hln6:=zah h0;refine zae u24 h0 ?_;refine zat (l.length) (λk us w'=>us=[.int .i64 (k:Int)]∧Ext w w'∧(∀ (j:Nat) (hj:j<l.length),j<k→l[j]∉l.drop (j+1))) (0) (by omega) ⟨by simp,Ext.refl w,λj hj h=>by omega⟩ ?_;rintro k m2 uu2 w1_ hk2 ⟨hu,η1,hinv⟩;try replace hu:=zbG hu
 try rw [hu]
 try clear hu
 have hln:=zah h0;refine zaf ?_;refine br (λc1=>?_) (λc1=>?_)
 · refine zad u24 ty9 h0 (by omega) λb10 o10 h10=>?_
   refine zaq ty9 h10 (e0.t η1) λhS11=>?_;refine zaB ?_;refine zln u24 ty9 h0 (by omega) (by omega) λv15 h15=>?_;refine (zc4 h15 (e0.t η1)).mono ?_;rintro _ w2_ ⟨η2,rfl⟩;refine br (λc2=>?_) (λc2=>?_)
   · refine ⟨(η1.t η2),?_⟩
     simp [zw3 (by omega) c2]
   refine zaB ?_;refine ⟨m2-1,by omega,k+1,by omega,by simp,(η1.t η2),?_⟩;intro j hj hjk;by_cases h:j=k
   · subst h;exact c2
   exact hinv j hj (by omega)
 refine ⟨η1,?_⟩;simp [zgv λj hj=>hinv j hj (by omega)]
def F149 (a0:Value) (w:World) (R:VW):Prop:=
 LOOPI [3] [(iV 0)] w λu2 w n2=>
 rN 24 3 a0 w λx6=>
 rC (u2 3) x6 w λx7=>
 BR x7
 ((λw=>rD (Instr.sliceAt 24 a0 none (some (u2 3)) none) w λx12=>
 rX 24 a0 (u2 3) w λx15=>
 rL 9 x15 w λx16=>
 cL 220 [x12,x16] w λx17 w=>
 BR x17
 (R vT w)
 (rI (u2 3) w λx9=>
 n2 [x9] w)) (World.drew1 w))
 (R vF w)
theorem F149_call {a0 w R} (h:F149 a0 w R):cL 149 [a0] w R:=co (g:=(kf [] [(2,262140,[3])] [(4,[0,1,2,3,4,5,6,7],0)])) Tryz.func149 h
theorem zdG {w:World} {v0:Value} {W0:World} {l:(List ByteArray)}  (h0:Is W0 v0 l) (e0:Ext W0 w)  :
   CALL tp 149 [v0] w λr w'=>Ext w w'∧(r=.bool (decide (¬l.Nodup))):=by
 refine F149_call ?_;unfold F149;refine zat (l.length) (λk us w'=>us=[.int .i64 (k:Int)]∧Ext w w'∧((l.take k).Nodup)) (0) (by omega) ⟨by simp,Ext.refl w,by simp⟩ ?_;rintro k m2 uu2 w1_ hk2 ⟨hu,η1,hinv⟩;try replace hu:=zbG hu
 try rw [hu]
 try clear hu
 have hln:=zah h0;have hln6:=zah h0;refine zae u24 h0 ?_;refine zaf ?_;refine br (λc1=>?_) (λc1=>?_)
 · have η2:=zai w1_
   refine zow u24 ty9 h0 (by omega) (by omega) λv12 h12=>?_;refine zad u24 ty9 h0 (by omega) λb15 o15 h15=>?_;refine zaq ty9 h15 (e0.t (η1.t η2)) λhS16=>?_;refine (zmO h12 (e0.t (η1.t η2))).mono ?_;rintro _ w3_ ⟨η3,rfl⟩;refine br (λc2=>?_) (λc2=>?_)
   · refine ⟨(η1.t (η2.t η3)),?_⟩
     simp [zvP (by omega) c2]
   refine zaB ?_;refine ⟨m2-1,by omega,k+1,by omega,by simp,(η1.t (η2.t η3)),?_⟩;exact zjr (by omega) hinv c2
 refine ⟨η1,?_⟩;rw [List.take_of_length_le (by omega)] at hinv;simp [hinv]
def F282 (a0 a1:Value) (w:World) (R:VW):Prop:=
 cL 180 [a0,a1] w λx7 w=>
 BR x7
 (R a0 w)
 (oP (bS 24 a1) w λx11 w=>
 oP (aP 24 a0 x11) w λx12 w=>
 R x12 w)
theorem F282_call {a0 a1 w R} (h:F282 a0 a1 w R):cL 282 [a0,a1] w R:=co (g:=(kf [] [] [])) Tryz.func282 h
def F243 (a0 a1:Value) (w:World) (R:VW):Prop:=
 oX 116 a1 w λx3 w=>
 rF 116 x3 0 w λx7=>
 rL 3 x7 w λx8=>
 rQ x8 (iV 2) w λx9=>
 BR x9
 (rF 116 x3 2 w λx11=>
 rL 9 x11 w λx12=>
 cL 282 [a0,x12] w λx13 w=>
 R x13 w)
 (rF 116 x3 3 w λx14=>
 rL 114 x14 w λx15=>
 rN 114 3 x15 w λx16=>
 LOOPI [0,17] [a0,(iV 0)] w λu4 w n4=>
 rC (u4 17) x16 w λx18=>
 BR x18
 (rX 114 x15 (u4 17) w λx19=>
 rL 116 x19 w λx20=>
 oP (aL 116) w λx6 w=>
 oS 116 x6 x20 w λw=>
 rL 116 x6 w λx22=>
 cL 243 [(u4 0),x22] w λx23 w=>
 rI (u4 17) w λx24=>
 n4 [x23,x24] w)
 (R (u4 0) w))
theorem F243_call {a0 a1 w R} (h:F243 a0 a1 w R):cL 243 [a0,a1] w R:=co (g:=(kf [] [(4,33423425,[0,17])] [])) Tryz.func243 h
def F222 (a0 a1:Value) (w:World) (R:VW):Prop:=
 oX 116 a0 w λx2 w=>
 rF 116 x2 0 w λx7=>
 rL 3 x7 w λx8=>
 rQ x8 (iV 2) w λx9=>
 BR x9
 (LOOPI [5] [(iV 0)] w λu3 w n3=>
 rN 24 3 a1 w λx12=>
 rC (u3 5) x12 w λx13=>
 BR x13
 ((λw=>rX 24 a1 (u3 5) w λx18=>
 rL 9 x18 w λx19=>
 rF 116 x2 2 w λx20=>
 rL 9 x20 w λx21=>
 rB .eql 9 T0 T0 x19 x21 w λx22=>
 BR x22
 (R a1 w)
 (rI (u3 5) w λx15=>
 n3 [x15] w)) (World.drew1 w))
 (rF 116 x2 2 w λx25=>
 rL 9 x25 w λx26=>
 oP (bS 24 x26) w λx27 w=>
 oP (aP 24 a1 x27) w λx28 w=>
 R x28 w))
 (LOOPI [1,6] [a1,(iV 0)] w λu9 w n9=>
 rF 116 x2 3 w λx30=>
 rL 114 x30 w λx31=>
 rN 114 3 x31 w λx32=>
 rC (u9 6) x32 w λx33=>
 BR x33
 (rF 116 x2 3 w λx36=>
 rL 114 x36 w λx37=>
 rX 114 x37 (u9 6) w λx39=>
 rL 116 x39 w λx40=>
 cL 222 [x40,(u9 1)] w λx42 w=>
 rI (u9 6) w λx35=>
 n9 [x42,x35] w)
 (R (u9 1) w))
theorem F222_call {a0 a1 w R} (h:F222 a0 a1 w R):cL 222 [a0,a1] w R:=co (g:=(kf [] [(3,16776240,[5]),(9,8795556151362,[1,6])] [(5,[0,1,2,3,4,5,6],0)])) Tryz.func222 h
def F183 (a0:Value) (w:World) (R:VW):Prop:=
 oX 116 a0 w λx1 w=>
 rL 116 x1 w λx3=>
 cL 182 [x3] w λx4 w=>
 rT x4 w λx5=>
 BR x5
 (R (Value.slice none 0 0) w)
 (rL 116 x1 w λx6=>
 cL 243 [(Value.slice none 0 0),x6] w λx7 w=>
 R x7 w)
theorem F183_call {a0 w R} (h:F183 a0 w R):cL 183 [a0] w R:=co (g:=(kf [] [] [])) Tryz.func183 h
def F153 (a0:Value) (w:World) (R:VW):Prop:=
 oX 116 a0 w λx1 w=>
 rL 116 x1 w λx3=>
 cL 152 [x3] w λx4 w=>
 rT x4 w λx5=>
 BR x5
 (oP (Instr.buildSlice 24 0 #[]) w λx6 w=>
 R x6 w)
 (rL 116 x1 w λx7=>
 oP (Instr.buildSlice 24 0 #[]) w λx8 w=>
 cL 222 [x7,x8] w λx9 w=>
 R x9 w)
theorem F153_call {a0 w R} (h:F153 a0 w R):cL 153 [a0] w R:=co (g:=(kf [] [] [])) Tryz.func153 h
def zrB (l:List ByteArray) (s:ByteArray):List ByteArray:=if s∈l then l else l++[s]
theorem zt7 (l:List ByteArray) (s:ByteArray):(zrB l s).length≤l.length+1:=by unfold zrB;split<;>simp
def readsT:Nat→DTerm→List ByteArray→List ByteArray
 | n,t,l=>if t.kind=2 then zrB l t.name else match n with | 0=>l | m+1=>t.kids.foldl (λl k=>readsT m k l) l
theorem zdH (n:Nat) (t:DTerm) (l:List ByteArray):readsT n t l=if t.kind=2 then zrB l t.name else match n with | 0=>l | m+1=>t.kids.foldl (λl k=>readsT m k l) l:=readsT.eq_def n t l
theorem zkO {α β:Type} (f:β→α→β) (b:β) {l:List α} {k:Nat} (hk:k<l.length):(l.take (k+1)).foldl f b=f ((l.take k).foldl f b) l[k]:=by
 rw [tk hk,List.foldl_append];rfl
theorem zjs {n:Nat} {t:DTerm} (h:zaU n t=true) (h2:¬t.kind=2):t.kids=[]∨∃ m,n=m+1∧t.kids.length≤2∧∀ k∈t.kids,zaU m k=true:=by
 by_cases h1:t.kind=1
 · rw [zd6 h1] at h
   simp only [Bool.and_eq_true,decide_eq_true_eq] at h;exact .inl (List.eq_nil_of_length_eq_zero (by omega))
 rw [zbg h1 h2] at h;simp only [Bool.and_eq_true,decide_eq_true_eq] at h;obtain ⟨⟨_,h3⟩,h4⟩:=h;cases n with
 | zero=>simp at h4
 | succ m=>
   refine .inr ⟨m,rfl,?_,λk hk=>List.all_eq_true.1 h4 k hk⟩;split at h3<;>omega
theorem zhQ:∀ (n:Nat) (t:DTerm) (l:List ByteArray),zaU n t=true→(readsT n t l).length≤l.length+2^n
 | n,t,l,h=>by
   rw [zdH];have hp:1≤2^n:=Nat.one_le_two_pow;split
   · have:=zt7 l t.name;omega
   rename_i h2
   rcases zjs h h2 with hk | ⟨m,rfl,hk,hall⟩
   · cases n with
     | zero=>simp
     | succ m=>simp [hk]
   show (t.kids.foldl (λl k=>readsT m k l) l).length≤_
   have key:∀ (ks:List DTerm) (l:List ByteArray),(∀ k∈ks,zaU m k=true)→(ks.foldl (λl k=>readsT m k l) l).length≤l.length+ks.length*2^m:=by
     intro ks
     induction ks with
     | nil=>intro l _;simp
     | cons k ks ih=>
       intro l hks;rw [List.foldl_cons,List.length_cons,Nat.add_mul,Nat.one_mul];have h1:=ih (readsT m k l) λx hx=>hks x (by simp [hx]);have h2:=zhQ m k l (hks k (by simp));omega
   have h1:=key t.kids l hall;have h2:t.kids.length*2^m≤2*2^m:=Nat.mul_le_mul_right _ hk;rw [Nat.pow_succ];omega
theorem zpB {w:World} {v:Value} {l:List ByteArray} {F:List Nat} {s:ByteArray} {ty:TypeId} {K:Value→World→Prop} (hr:RowF F 9 w v l) (hn:F.Nodup) (hs:s.size≤maxLen) (hl:l.length≤1000000)
   (k:∀ v' w',Chg F w w'→(∃ F',RowF F' 9 w' v' (l++[s])∧F'.Nodup∧∀ b∈F',b∈F∨w.heap.size≤b)→K v' w') :
   OP tp (Instr.buildSlice 24 1 #[(0,.string s)]) w λx w1=>OP tp (Builtin.append_ #[24,24] ty [v,x].toArray) w1 K:=by
 refine zg8 (α:=ByteArray) (x:=s) (F:=[]) u24 ty9 z9 (by decide) ⟨⟨_,⟨rfl,rfl,hs⟩,rfl⟩,List.nodup_nil,Wr.nil _⟩ λw1 hx1 hm1=>?_;obtain ⟨a,cap,Fi,xs,he,h1,h2,hc,h4⟩:=zcY hm1.is;have hFi:=Cells.flat (xs:=xs) hc;subst hFi;refine ze1 (α:=ByteArray) (m:=[s]) u24 ty9 zc9 (hr.ext hx1) hn he hc (.inr ?_) (Wr.nil _) (by simpa using hn) (by simp only [List.length_cons,List.length_nil,zak];omega) (by simp only [List.length_cons,List.length_nil];omega) λv' w' F' hch hfull hr' hn' hs'=>?_
 · rcases h4 with h4 | ⟨b,o,ha,hra,_⟩
   · simp at h4
   exact ⟨b,o,ha,hra⟩
 have hown:∀ c∈v.ownBlock.toList,c∈F:=λc hc=>by
   obtain ⟨xs,Fi,_,_,rfl,_⟩:=hr;simp only [List.mem_append];exact .inl hc
 refine k v' w' ((Ext.chg F hx1).trans (hch.mono hown)) ⟨F',hr',hn',λb hb=>?_⟩;rcases hs' b hb with h | h | h
 · exact .inl h
 · simp at h
 exact .inr (Nat.le_trans hx1.size h)
theorem zqG {w:World} {v:Value} {l:List ByteArray} {F:List Nat} {s:ByteArray} (hr:RowF F 9 w v l) (hn:F.Nodup) (hs:s.size≤maxLen) (hl:l.length≤1000000) :
   CALL tp 282 [v,.string s] w λr w'=>Chg F w w'∧∃ F',RowF F' 9 w' r (zrB l s)∧F'.Nodup∧∀ b∈F',b∈F∨w.heap.size≤b:=by
 refine F282_call ?_;unfold F282;refine (zc4 hr.own.is (Ext.refl w)).mono ?_;rintro _ w1 ⟨hx1,rfl⟩;refine br (λc1=>?_) (λc1=>?_)
 · exact ⟨Ext.chg F hx1,F,by unfold zrB;rw [if_pos c1];exact hr.ext hx1,hn,λb hb=>.inl hb⟩
 refine zpB (hr.ext hx1) hn hs hl λv' w' hc ⟨F',h1,h2,h3⟩=>⟨(Ext.chg F hx1).trans hc,F',by unfold zrB;rw [if_neg c1];exact h1,h2,λb hb=>?_⟩;rcases h3 b hb with h | h
 · exact .inl h
 exact .inr (Nat.le_trans hx1.size h)
def zlA (F:List Nat) (w:World) (l:List ByteArray) (r:Value) (w':World):Prop:=Chg F w w'∧∃ F',RowF F' 9 w' r l∧F'.Nodup∧∀ b∈F',b∈F∨w.heap.size≤b
def zxD (n:Nat):Prop:=∀ {w W:World} {v u:Value} {t:DTerm} {l:List ByteArray} {F:List Nat},Is W v t→Ext W w→RowF F 9 w u l→F.Nodup→(∀ b∈F,W.heap.size≤b)→zaU n t=true→l.length+2^n≤1000 →
 CALL tp 243 [u,v] w (zlA F w (readsT n t l))
def zxE (n:Nat):Prop:=∀ {w W:World} {v u:Value} {t:DTerm} {l:List ByteArray} {F:List Nat},Is W v t→Ext W w→RowF F 9 w u l→F.Nodup→(∀ b∈F,W.heap.size≤b)→zaU n t=true→l.length+2^n≤1000 →
 CALL tp 222 [v,u] w (zlA F w (readsT n t l))
theorem ziR {n:Nat} {t:DTerm} {l:List ByteArray} (h:t.kind=2):readsT n t l=zrB l t.name:=by rw [zdH,if_pos h]
theorem zjt {n:Nat} {t:DTerm} {l:List ByteArray} (h:zaU n t=true) (h2:¬t.kind=2) (hl:l.length+2^n≤1000) :
   ∃ m,(t.kids=[]∨n=m+1)∧readsT n t l=t.kids.foldl (λl k=>readsT m k l) l∧(∀ k∈t.kids,zaU m k=true)∧∀ k,k<t.kids.length→((t.kids.take k).foldl (λl k=>readsT m k l) l).length+2^m≤1000:=by
 rcases zjs h h2 with hk | ⟨m,rfl,hk,hall⟩
 · refine ⟨0,.inl hk,?_,by simp [hk],by simp [hk]⟩
   rw [zdH,if_neg h2,hk];cases n<;>rfl
 refine ⟨m,.inr rfl,by rw [zdH,if_neg h2],hall,λk hkl=>?_⟩;rw [Nat.pow_succ] at hl
 have key:∀ (ks:List DTerm) (l:List ByteArray),(∀ k∈ks,zaU m k=true)→(ks.foldl (λl k=>readsT m k l) l).length≤l.length+ks.length*2^m:=by
   intro ks
   induction ks with
   | nil=>intro l _;simp
   | cons k ks ih=>
     intro l hks;rw [List.foldl_cons,List.length_cons,Nat.add_mul,Nat.one_mul];have h1:=ih (readsT m k l) λx hx=>hks x (by simp [hx]);have h2:=zhQ m k l (hks k (by simp));omega
 have h1:=key (t.kids.take k) l λx hx=>hall x (List.mem_of_mem_take hx);have h3:(t.kids.take k).length≤1:=by simp;omega
 have h4:(t.kids.take k).length*2^m≤1*2^m:=Nat.mul_le_mul_right _ h3;omega
theorem zpC {W w:World} {b o:Nat} {t:DTerm} (h:AtB W w b o t):AtB W w b (o+3) t.kids:=by
 have h':AtB W w b o t.tup:=by obtain ⟨F,cs,hr,ha⟩:=h;exact ⟨F,cs,zgC.1 hr,ha⟩
 exact h'.snd.snd.snd
theorem zlB {n:Nat} (ih:∀ m,m+1=n→zxD m):zxD n:=by
 intro w W v u t l F h e hr hn hF ht hl;refine F243_call ?_;unfold F243;refine zao za4 rfl h e λw1 hx1 hA hV=>?_;refine zaa zcZ ?_;refine zac ty3 (zbn hA) (Ext.refl w1) λ_=>?_;refine zag ?_;refine br (λc1=>?_) (λc1=>?_)
 · refine zaa zda ?_
   refine zaq ty9 (zbv hA) (Ext.refl w1) λhS=>?_;have hp:1≤2^n:=Nat.one_le_two_pow;refine (zqG (hr.ext hx1) hn hS (by omega)).mono ?_;rintro r w2 ⟨hc,F',h1,h2,h3⟩;refine ⟨(Ext.chg F hx1).trans hc,F',by rw [ziR c1];exact h1,h2,λb hb=>?_⟩;rcases h3 b hb with h | h
   · exact .inl h
   exact .inr (Nat.le_trans hx1.size h)
 obtain ⟨m,hm,he,hks,hlen⟩:=zjt ht c1 hl;refine zaa zbi ?_;refine zen zdj (zpC (zfI h hV rfl)) (e.trans hx1) (Ext.refl w1) λv15 h15=>?_;refine zae zgq h15 ?_;have hll:=zah h15;refine zat t.kids.length (λk us w'=>∃ q,us=[q,.int .i64 (k:Int)]∧zlA F w ((t.kids.take k).foldl (λl k=>readsT m k l) l) q w') 0 (z0 _) ⟨u,rfl,Ext.chg F hx1,F,by simpa using hr.ext hx1,hn,λb hb=>.inl hb⟩ ?_;rintro k mm uu w2 hkm ⟨q,hu,hc2,F2,hr2,hn2,hs2⟩;obtain ⟨hu0,hu1⟩:=zd4 hu;try rw [hu0]
 try rw [hu1]
 have hF2:∀ b∈F2,W.heap.size≤b:=λb hb=>by
   rcases hs2 b hb with h | h
   · exact hF b h
   exact Nat.le_trans e.size h
 have hxW:Ext W w2:=e.chg_trans hc2 hF;refine zaf ?_;refine br (λc2=>?_) (λc2=>?_)
 · have hk:k<t.kids.length:=by omega
   obtain ⟨m',rfl⟩:∃ m',n=m'+1:=by
     rcases hm with h | h
     · rw [h] at hk;simp at hk
     exact ⟨m,h⟩
   have hmm:m'=m:=by
     rcases hm with h | h
     · rw [h] at hk;simp at hk
     omega
   subst hmm;refine zad zgq za4 h15 hk λb o hA2=>?_;refine zab za4 hA2 hxW λv20 h20=>?_;refine zcX zqC rfl za4 rfl h20 hxW λw3 hx3 hA3 hV3=>?_;refine zau hV3 (Ext.refl w3) ?_;refine (ih m' rfl h20 (hxW.t hx3) (hr2.ext hx3) hn2 hF2 (hks _ (List.getElem_mem hk)) (hlen k hk)).mono ?_;rintro r w4 ⟨hc4,F4,hr4,hn4,hs4⟩;refine zaB ?_;refine ⟨mm-1,by omega,k+1,by omega,r,rfl,?_⟩;refine ⟨?_,F4,by rw [zkO _ _ hk];exact hr4,hn4,λb hb=>?_⟩
   · -- the blocks of F alone have turned
     refine ⟨hc4.os.trans (hx3.os.trans hc2.os),hc4.tape.trans (hx3.tape.trans hc2.tape),hc4.output.trans (hx3.output.trans hc2.output),Nat.le_trans hc2.size (Nat.le_trans hx3.size hc4.size),λb hb hbF=>?_⟩;have hb2:b<w2.heap.size:=Nat.lt_of_lt_of_le hb hc2.size
     have hbF2:b∉F2:=λhm=>by
       rcases hs2 b hm with h | h
       · exact hbF h
       omega
     rw [hc4.block b (Nat.lt_of_lt_of_le hb2 hx3.size) hbF2,hx3.heap hb2,hc2.block b hb hbF]
   rcases hs4 b hb with h | h
   · exact hs2 b h
   have:=hx3.size;have:=hc2.size;exact .inr (by omega)
 rw [List.take_of_length_le (by omega),←he] at hr2;exact ⟨hc2,F2,hr2,hn2,hs2⟩
theorem zju:∀ n,zxD n
  | n=>zlB λm hm=>zju m
termination_by n=>n
decreasing_by omega
theorem zlC {n:Nat} (ih:∀ m,m+1=n→zxE m):zxE n:=by
 intro w W v u t l F h e hr hn hF ht hl;refine F222_call ?_;unfold F222;have hlen:=zah hr.own.is;have hp:1≤2^n:=Nat.one_le_two_pow;refine zao za4 rfl h e λw1 hx1 hA hV=>?_;have hg1:w.heap.size<w1.heap.size:=hV.lt;have hgF:w.heap.size∉F:=λhm=>by have:=hr.lt _ hm;omega
 refine zaa zcZ ?_;refine zac ty3 (zbn hA) (Ext.refl w1) λ_=>?_;refine zag ?_;refine br (λc1=>?_) (λc1=>?_)
 · have hr1:=hr.ext hx1
   refine zat l.length (λk us w'=>us=[.int .i64 (k:Int)]∧Ext w1 w'∧t.name∉l.take k) 0 (z0 _) ⟨rfl,Ext.refl w1,by simp⟩ ?_;rintro k mm uu w2 hkm ⟨hu,hx2,hinv⟩;try replace hu:=zbG hu
   rw [hu];refine zae u24 hr1.own.is ?_;refine zaf ?_;refine br (λc2=>?_) (λc2=>?_)
   · have hk:k<l.length:=by omega
     have hx3:=hx2.t (zai w2);refine zad u24 ty9 hr1.own.is hk λb o hA2=>?_;refine zaq ty9 hA2 hx3 λ_=>?_;refine zaa zda ?_;refine zaq ty9 (zbv hA) hx3 λ_=>?_;refine zaS ?_;refine br (λc3=>?_) (λc3=>?_)
     · have hm:t.name∈l:=c3▸List.getElem_mem hk
       refine ⟨Ext.chg F (hx1.t hx3),F,?_,hn,λb hb=>.inl hb⟩;rw [ziR c1,zrB,if_pos hm];exact hr1.ext hx3
     refine zaB ?_;exact ⟨mm-1,by omega,k+1,by omega,rfl,hx3,zcA hk hinv c3⟩
   rw [List.take_of_length_le (by omega)] at hinv;have hx3:=hx2.t (zai w2)
   first
     | refine zaa zda ?_
     | skip
   refine zaq ty9 (zbv hA) hx2 λhS=>?_;refine zpB (hr1.ext hx2) hn hS (by omega) λv' w' hc ⟨F',h1,h2,h3⟩=>?_;refine ⟨(Ext.chg F (hx1.t hx2)).trans hc,F',by rw [ziR c1,zrB,if_neg hinv];exact h1,h2,λb hb=>?_⟩;rcases h3 b hb with h | h
   · exact .inl h
   exact .inr (Nat.le_trans (hx1.t hx2).size h)
 obtain ⟨m,hm,he,hks,hlen⟩:=zjt ht c1 hl;refine zat t.kids.length (λk us w'=>∃ q,us=[q,.int .i64 (k:Int)]∧zlA F w1 ((t.kids.take k).foldl (λl k=>readsT m k l) l) q w') 0 (z0 _) ⟨u,rfl,Chg.refl F w1,F,by simpa using hr.ext hx1,hn,λb hb=>.inl hb⟩ ?_;rintro k mm uu w2 hkm ⟨q,hu,hc2,F2,hr2,hn2,hs2⟩;obtain ⟨hu0,hu1⟩:=zd4 hu;try rw [hu0]
 try rw [hu1]
 have hF2:∀ b∈F2,W.heap.size≤b:=λb hb=>by
   rcases hs2 b hb with h | h
   · exact hF b h
   have:=e.size;have:=hx1.size;omega
 have hxW:Ext W w2:=(e.trans hx1).chg_trans hc2 hF;have hB2:AtB W w2 w.heap.size 0 t:=(zfI h hV rfl).keep (hc2.block _ hg1 hgF);have hA2:=hB2.at hxW;refine zaa zbi ?_;refine zab zdj (zaG hA2) (Ext.refl w2) λv31 h31=>?_;refine zae zgq h31 ?_;have hll:=zah h31;refine zaf ?_;refine br (λc2=>?_) (λc2=>?_)
 · have hk:k<t.kids.length:=by omega
   obtain ⟨m',rfl⟩:∃ m',n=m'+1:=by
     rcases hm with h | h
     · rw [h] at hk;simp at hk
     exact ⟨m,h⟩
   have hmm:m'=m:=by
     rcases hm with h | h
     · rw [h] at hk;simp at hk
     omega
   subst hmm;refine zaa zbi ?_;refine zen zdj (zpC hB2) hxW (Ext.refl w2) λv37 h37=>?_;refine zad zgq za4 h37 hk λb o hA3=>?_;refine zab za4 hA3 hxW λv40 h40=>?_;refine (ih m' rfl h40 hxW hr2 hn2 hF2 (hks _ (List.getElem_mem hk)) (hlen k hk)).mono ?_;rintro r w4 ⟨hc4,F4,hr4,hn4,hs4⟩;refine zaB ?_;refine ⟨mm-1,by omega,k+1,by omega,r,rfl,?_⟩;refine ⟨?_,F4,by rw [zkO _ _ hk];exact hr4,hn4,λb hb=>?_⟩
   · refine ⟨hc4.os.trans hc2.os,hc4.tape.trans hc2.tape,hc4.output.trans hc2.output,Nat.le_trans hc2.size hc4.size,λb hb hbF=>?_⟩
     have hb2:b<w2.heap.size:=Nat.lt_of_lt_of_le hb hc2.size
     have hbF2:b∉F2:=λhm=>by
       rcases hs2 b hm with h | h
       · exact hbF h
       omega
     rw [hc4.block b hb2 hbF2,hc2.block b hb hbF]
   rcases hs4 b hb with h | h
   · exact hs2 b h
   have:=hc2.size;exact .inr (by omega)
 rw [List.take_of_length_le (by omega),←he] at hr2;refine ⟨(Ext.chg F hx1).trans hc2,F2,hr2,hn2,λb hb=>?_⟩;rcases hs2 b hb with h | h
 · exact .inl h
 exact .inr (Nat.le_trans hx1.size h)
theorem zjv:∀ n,zxE n
  | n=>zlC λm hm=>zjv m
termination_by n=>n
decreasing_by omega
def zbI (t:DTerm):List ByteArray:=if zaU 6 t=true then readsT 6 t [] else []
theorem zox (t:DTerm):(zbI t).length≤64:=by
 unfold zbI;split
 · have:=zhQ 6 t [] (by assumption);simpa using this
 simp
theorem zt8 {α:Type} [Rep α] (e:TypeId) (w:World):RowF (α:=α) [] e w (.slice none 0 0) []:=⟨[],[],⟨by simp,.inl ⟨rfl,rfl⟩⟩,⟨rfl,rfl⟩,rfl,Wr.nil _⟩
theorem zgw {w W:World} {v:Value} {t:DTerm} (h:Is W v t) (e:Ext W w):CALL tp 183 [v] w λr w'=>Ext w w'∧Is w' r (zbI t):=by
 refine F183_call ?_;unfold F183;refine zao za4 rfl h e λw1 hx1 hA hV=>?_;refine zau hV (Ext.refl w1) ?_;refine (zft h (e.trans hx1)).mono ?_;rintro _ w2 ⟨hx2,rfl⟩;refine za1 ?_;refine zcd (λc=>?_) (λc=>?_)
 · refine ⟨hx1.t hx2,?_⟩
   unfold zbI;rw [if_neg (by simpa using c)];exact zwT rfl
 have c:zaU 6 t=true:=by simpa using c
 refine zau hV hx2 ?_;refine (zju 6 h ((e.trans hx1).trans hx2) (zt8 _ _) List.nodup_nil (by simp) c (by decide)).mono ?_;rintro r w3 ⟨hc,F',hr,hn,hs⟩;refine ⟨(hx1.t hx2).trans (Chg.ext hc),?_⟩;unfold zbI;rw [if_pos c];exact hr.own.is
theorem zeT {w W:World} {v:Value} {t:DTerm} (h:Is W v t) (e:Ext W w):CALL tp 153 [v] w λr w'=>Ext w w'∧Is w' r (zbI t):=by
 refine F153_call ?_;unfold F153;refine zao za4 rfl h e λw1 hx1 hA hV=>?_;refine zau hV (Ext.refl w1) ?_;refine (zco h (e.trans hx1)).mono ?_;rintro _ w2 ⟨hx2,rfl⟩;refine za1 ?_;refine zcd (λc=>?_) (λc=>?_)
 · refine zg2 (α:=ByteArray) u24 ty9 λa w3 hx3 hr3=>?_
   refine ⟨(hx1.t hx2).trans hx3,?_⟩;unfold zbI;rw [if_neg (by simpa using c)];exact hr3.is
 have c:zaU 6 t=true:=by simpa using c
 refine zau hV hx2 ?_;refine zg2 (α:=ByteArray) u24 ty9 λa w3 hx3 hr3=>?_;obtain ⟨F,hr,hn,hl⟩:=hr3;have hx13:=(hx1.t hx2);refine (zjv 6 h ((e.trans hx13).trans hx3) hr hn (λb hb=>Nat.le_trans (e.trans hx13).size (hl b hb)) c (by decide)).mono ?_;rintro r w4 ⟨hc,F',hr',hn',hs'⟩;refine ⟨(hx13.t hx3).chg_trans hc (λb hb=>Nat.le_trans hx13.size (hl b hb)),?_⟩;unfold zbI;rw [if_pos c];exact hr'.own.is
def ztK (l:List ByteArray):Nat:=l.length+sm ByteArray.size l
mutual
def wT:DTerm→Nat
  | .mk _ _ s ks=>s.size+wTs ks
def wTs:List DTerm→Nat
  | []=>0
  | t :: r=>1+wT t+wTs r
end
theorem zsd (l:List DTerm):wTs l=l.length+sm wT l:=by
 induction l with
 | nil=>simp [wTs,sm]
 | cons t l ih=>rw [wTs,ih];simp [sm];omega
theorem zvQ (t:DTerm):wT t=t.name.size+wTs t.kids:=by cases t;rw [wT];rfl
def zxF (l:List DIns):Nat:=l.length+sm (λi=>wT i.term) l
def zt9 (c:DCode):Nat:=ztK c.globals+ztK c.locks+ztK c.procs+c.entry.length+zxF c.ins
end Go.Proofs.YtakjaofncelghaaGreat
