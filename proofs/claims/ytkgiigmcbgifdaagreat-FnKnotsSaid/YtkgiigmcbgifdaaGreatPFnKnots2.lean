/-
  Parts of the proof, put together by program.
-/
import Derived.Test.YtkgiigmcbgifdaaGreatPFnKnots1
set_option maxRecDepth 20000
set_option linter.defProp false
set_option linter.unusedVariables false
set_option linter.unusedSimpArgs false
set_option linter.unusedSectionVars false
open Go renaming Value→vL,World→wD,Program→pG
namespace Go.Sh
open Rep (rep)
inductive DTerm where
 | mk (kind num:Int) (name:ByteArray) (kids:List DTerm)
namespace DTerm
def kind:DTerm->Int | .mk k _ _ _=>k
def num:DTerm->Int | .mk _ n _ _=>n
def name:DTerm->ByteArray | .mk _ _ s _=>s
def kids:DTerm->List DTerm | .mk _ _ _ l=>l
def tup (t:DTerm):Int×Int×ByteArray×List DTerm:=(t.kind,t.num,t.name,t.kids)
end DTerm
def DTerm.eta (t:DTerm):DTerm.mk t.kind t.num t.name t.kids=t:=by cases t;rfl
def DTerm.ext_iff {x y:DTerm}:x=y↔(x.kind=y.kind/\x.num=y.num/\x.name=y.name/\x.kids=y.kids):=by
 constructor
 . intro h;rw [h];exact ⟨rfl,rfl,rfl,rfl⟩
 rintro ⟨h1,h2,h3,h4⟩;rw [<-DTerm.eta x,<-DTerm.eta y,h1,h2,h3,h4]
theorem DTerm.kid_lt {t k:DTerm} (h:k∈t.kids):SizeOf.sizeOf k<SizeOf.sizeOf t:=by
 cases t with
 | mk a b c l=>
   have:k∈l:=h;have:=qcD this;simp only [DTerm.mk.sizeOf_spec];omega
theorem DTerm.ind {p:DTerm->Prop} (h:∀ t,(∀ k∈t.kids,p k)->p t) (t:DTerm):p t:=
  h t λk hk=>DTerm.ind h k
termination_by SizeOf.sizeOf t
decreasing_by exact DTerm.kid_lt hk
mutual
def DTerm.beq:DTerm->DTerm->Bool
  | .mk a b c l,.mk a' b' c' l'=>decide (a=a')&&decide (b=b')&&decide (c=c')&&DTerm.beqL l l'
def DTerm.beqL:List DTerm->List DTerm->Bool
  | [],[]=>true
  | x :: l,y :: m=>DTerm.beq x y&&DTerm.beqL l m
  | _,_=>false
end
mutual
theorem DTerm.beq_iff:∀ (x y:DTerm),DTerm.beq x y=true↔x=y
  | .mk a b c l,.mk a' b' c' l'=>by
    simp only [DTerm.beq,qar,qau,DTerm.mk.injEq,DTerm.beqL_iff l l',and_assoc]
theorem DTerm.beqL_iff:∀ (x y:List DTerm),DTerm.beqL x y=true↔x=y
  | [],[]=>by simp [DTerm.beqL]
  | [],y :: m=>by simp [DTerm.beqL]
  | x :: l,[]=>by simp [DTerm.beqL]
  | x :: l,y :: m=>by simp only [DTerm.beqL,qar,DTerm.beq_iff x y,DTerm.beqL_iff l m,qbk]
end
instance:DecidableEq DTerm:=λx y=>decidable_of_iff _ (DTerm.beq_iff x y)
mutual
def zs1:DTerm->List Nat->wD->List vL->Prop
  | .mk k n s ks,F,w,cs=>∃ a cap Fi xs,cs=[.int .i64 k,.int .i64 n,.string s,.slice a ks.length cap]/\I64 k/\I64 n/\s.size<=maxLen/\ks.length<=cap/\cap<=maxLen/\zgo ks Fi w xs /\
    ((ks=[]/\F=[])\/∃ b o,a=some ⟨b,o,none⟩/\F=b :: Fi/\w.rangeAt b o xs/\b<w.heap.size)
def zgo:List DTerm->List Nat->wD->List vL->Prop
  | [],F,_,xs=>F=[]/\xs=[]
  | y :: ys,F,w,xs=>∃ F1 F2 c1 c2,F=F1++F2/\xs=c1++c2/\zs1 y F1 w c1/\zgo ys F2 w c2
end
def zA4 {t:DTerm} {F:List Nat} {w:wD} {cs:List vL} (h:zs1 t F w cs):cs.length=4:=by
 cases t;rw [zs1] at h;obtain ⟨_,_,_,_,rfl,_⟩:=h;rfl
def zA5 {t:DTerm} {F:List Nat} {w:wD} {cs:List vL} (h:zs1 t F w cs):∀ v∈cs,v.oneCell'=true:=by
 cases t;rw [zs1] at h;obtain ⟨_,_,_,_,rfl,_⟩:=h;intro v hv;simp only [qaa,qad,qaq] at hv;rcases hv with rfl | rfl | rfl | rfl<;>rfl
mutual
theorem zqS:∀ (t:DTerm) {F:List Nat} {w w':wD} {cs:List vL},zs1 t F w cs->(∀ b∈F,w'.heap[b]?=w.heap[b]?)->zs1 t F w' cs
  | .mk k n s ks,F,w,w',cs,h,hk=>by
    rw [zs1] at h ⊢;obtain ⟨a,cap,Fi,xs,hcs,i1,i2,i3,h1,h2,hc,h4⟩:=h;rcases h4 with ⟨rfl,rfl⟩ | ⟨b,o,ha,hF,hr,hb⟩
    . exact ⟨a,cap,Fi,xs,hcs,i1,i2,i3,h1,h2,by rw [zgo] at hc ⊢;exact hc,.inl ⟨rfl,rfl⟩⟩
    subst hF;have hbb:=hk b sS;refine ⟨a,cap,Fi,xs,hcs,i1,i2,i3,h1,h2,zlV ks hc λc hc=>hk c (by simp [hc]),.inr ⟨b,o,ha,rfl,zbo hr hbb,?_⟩⟩;rcases qay b (Array.size (World.heap w')) with h' | h'
    . exact h'
    rw [Array.getElem?_eq_none h'] at hbb;simp [Array.getElem?_eq_getElem hb] at hbb
theorem zlV:∀ (l:List DTerm) {F:List Nat} {w w':wD} {cs:List vL},zgo l F w cs->(∀ b∈F,w'.heap[b]?=w.heap[b]?)->zgo l F w' cs
  | [],F,w,w',cs,h,_=>by rw [zgo] at h ⊢;exact h
  | y :: ys,F,w,w',cs,h,hk=>by
    rw [zgo] at h ⊢;obtain ⟨F1,F2,c1,c2,rfl,rfl,h1,h2⟩:=h;exact ⟨F1,F2,c1,c2,rfl,rfl,zqS y h1 λb hb=>hk b (by simp [hb]),zlV ys h2 λb hb=>hk b (by simp [hb])⟩
end
mutual
theorem zxK:∀ (t:DTerm) {F:List Nat} {w:wD} {cs:List vL},zs1 t F w cs->∀ b∈F,b<w.heap.size
  | .mk k n s ks,F,w,cs,h,c,hm=>by
    rw [zs1] at h;obtain ⟨a,cap,Fi,xs,hcs,i1,i2,i3,h1,h2,hc,h4⟩:=h;rcases h4 with ⟨rfl,rfl⟩ | ⟨b,o,ha,hF,hr,hb⟩
    . cases hm
    subst hF;rcases qaa.1 hm with rfl | hm
    . exact hb
    exact zqT ks hc c hm
theorem zqT:∀ (l:List DTerm) {F:List Nat} {w:wD} {cs:List vL},zgo l F w cs->∀ b∈F,b<w.heap.size
  | [],F,w,cs,h,c,hm=>by rw [zgo] at h;rw [h.1] at hm;cases hm
  | y :: ys,F,w,cs,h,c,hm=>by
    rw [zgo] at h;obtain ⟨F1,F2,c1,c2,rfl,rfl,h1,h2⟩:=h;rcases qae.1 hm with hm | hm
    . exact zxK y h1 c hm
    exact zqT ys h2 c hm
end
instance:Rep DTerm where
 size:=4
 agg:=true
 rep F w cs x:=zs1 x F w cs
 pos:=by decide
 sz h:=by cases h
 len h:=zA4 h
 one h:=zA5 h
 keep h hk:=zqS _ h hk
 lt h:=zxK _ h
theorem zji {w:wD}:∀ {l:List DTerm} {F:List Nat} {xs:List vL},zgo l F w xs↔Cells F w xs l
 | [],F,xs=>by rw [zgo];exact Iff.rfl
 | y :: ys,F,xs=>by
   rw [zgo];constructor
   . rintro ⟨F1,F2,c1,c2,h1,h2,h3,h4⟩;exact ⟨F1,F2,c1,c2,h1,h2,h3,zji.1 h4⟩
   rintro ⟨F1,F2,c1,c2,h1,h2,h3,h4⟩;exact ⟨F1,F2,c1,c2,h1,h2,h3,zji.2 h4⟩
def ziA {w:wD} {F:List Nat} {cs:List vL} {t:DTerm}:rep F w cs t↔rep F w cs t.tup:=by
 obtain ⟨k,n,s,_⟩:=t;show zs1 _ F w cs↔_;rw [zs1];constructor
 . rintro ⟨a,cap,Fi,xs,rfl,i1,i2,i3,h1,h2,hc,h4⟩;refine ⟨[],F,[.int .i64 k],_,rfl,rfl,⟨rfl,rfl,i1⟩,[],F,[.int .i64 n],_,rfl,rfl,⟨rfl,rfl,i2⟩,[],F,[.string s],_,rfl,rfl,⟨rfl,rfl,i3⟩,a,cap,Fi,xs,rfl,h1,h2,zji.1 hc,h4⟩
 rintro ⟨_,_,_,_,rfl,rfl,⟨rfl,rfl,i1⟩,_,_,_,_,rfl,rfl,⟨rfl,rfl,i2⟩,_,_,_,_,rfl,rfl,⟨rfl,rfl,i3⟩,a,cap,Fi,xs,rfl,h1,h2,hc,h4⟩;exact ⟨a,cap,Fi,xs,rfl,i1,i2,i3,h1,h2,zji.2 hc,h4⟩
def zug {w:wD} {b o:Nat} {t:DTerm}:At w b o t↔At w b o t.tup:=
 ⟨λ⟨F,cs,h,k⟩=>⟨F,cs,ziA.1 h,k⟩,λ⟨F,cs,h,k⟩=>⟨F,cs,ziA.2 h,k⟩⟩
def zxL {w:wD} {G:List Nat} {b o:Nat} {t:DTerm}:OAt G w b o t↔OAt G w b o t.tup:=
 ⟨λ⟨cs,h,k⟩=>⟨cs,ziA.1 h,k⟩,λ⟨cs,h,k⟩=>⟨cs,ziA.2 h,k⟩⟩
section
variable {w:wD} {b o:Nat}
def zbT {x:DTerm} (h:At w b o x):At w b (o+0) x.kind:=zcn (α:=Int) (β:=Int×ByteArray×List DTerm) (p:=x.tup) (zug.1 h)
def zcv {x:DTerm} (h:At w b o x):At w b (o+1) x.num:=zcn (α:=Int) (β:=ByteArray×List DTerm) (p:=(x.num,x.name,x.kids)) (za7 (α:=Int) (β:=Int×ByteArray×List DTerm) (p:=x.tup) (zug.1 h))
def zb3 {x:DTerm} (h:At w b o x):At w b (o+2) x.name:=zcn (α:=ByteArray) (β:=List DTerm) (p:=(x.name,x.kids)) (za7 (α:=Int) (β:=ByteArray×List DTerm) (p:=(x.num,x.name,x.kids)) (za7 (α:=Int) (β:=Int×ByteArray×List DTerm) (p:=x.tup) (zug.1 h)))
def za0 {x:DTerm} (h:At w b o x):At w b (o+3) x.kids:=za7 (α:=ByteArray) (β:=List DTerm) (p:=(x.name,x.kids)) (za7 (α:=Int) (β:=ByteArray×List DTerm) (p:=(x.num,x.name,x.kids)) (za7 (α:=Int) (β:=Int×ByteArray×List DTerm) (p:=x.tup) (zug.1 h)))
def zxM {x:DTerm} {F0:List Nat} {c0:List vL} (h0:rep F0 w c0 x.kind) {F1:List Nat} {c1:List vL} (h1:rep F1 w c1 x.num) {F2:List Nat} {c2:List vL} (h2:rep F2 w c2 x.name) {F3:List Nat} {c3:List vL} (h3:rep F3 w c3 x.kids) :
   rep (F0++(F1++(F2++F3))) w (c0++(c1++(c2++c3))) x:=ziA.2 (zaR h0 (zaR h1 (zaR h2 h3)))
end
def Lens.term {w:wD} {γ:Type} {H:List Nat->wD->γ->Prop} {F:List Nat} {b o:Nat} {G:List Nat} {t:DTerm} {upd:DTerm->γ} (h:Lens H F w b o G t upd) :
   Lens H F w b o G t.tup (λp=>upd (.mk p.1 p.2.1 p.2.2.1 p.2.2.2)):=
 ⟨zxL.1 h.here,h.sub,λw' G' y' hc hO hs=>h.back w' G' _ hc (zxL.2 hO) hs⟩
instance:RepZ DTerm:=⟨.mk 0 0 ByteArray.empty [],RepZ.zc (Int×Int×ByteArray×List DTerm),λw=>ziA.2 (RepZ.zr (α:=Int×Int×ByteArray×List DTerm) w)⟩
section
variable {γ:Type} {H:List Nat->wD->γ->Prop} {F:List Nat} {w:wD} {b o:Nat} {G:List Nat} {x:DTerm} {upd:DTerm->γ}
end
structure DIns where
 op:Int
 arg:Int
 term:DTerm
 to:Int
def DIns.ext_iff {x y:DIns}:x=y↔(x.op=y.op/\x.arg=y.arg/\x.term=y.term/\x.to=y.to):=⟨λh=>by rw [h];exact ⟨rfl,rfl,rfl,rfl⟩,λh=>by obtain ⟨h0,h1,h2,h3⟩:=h;cases x;cases y;simp only at h0 h1 h2 h3;simp only [h0,h1,h2,h3]⟩
instance:DecidableEq DIns:=λx y=>decidable_of_iff (x.op=y.op/\x.arg=y.arg/\x.term=y.term/\x.to=y.to) DIns.ext_iff.symm
instance:Rep DIns:=Rep.via λx=>(x.op,x.arg,x.term,x.to)
def zay {w:wD} {b o:Nat} {x:DIns} (h:At w b o x):At w b (o+0) x.op:=zcn (α:=Int) (β:=Int×DTerm×Int) (p:=(x.op,x.arg,x.term,x.to)) h
def zat {w:wD} {b o:Nat} {x:DIns} (h:At w b o x):At w b (o+1) x.arg:=zcn (α:=Int) (β:=DTerm×Int) (p:=(x.arg,x.term,x.to)) (za7 (α:=Int) (β:=Int×DTerm×Int) (p:=(x.op,x.arg,x.term,x.to)) h)
def zco {w:wD} {b o:Nat} {x:DIns} (h:At w b o x):At w b (o+2) x.term:=zcn (α:=DTerm) (β:=Int) (p:=(x.term,x.to)) (za7 (α:=Int) (β:=DTerm×Int) (p:=(x.arg,x.term,x.to)) (za7 (α:=Int) (β:=Int×DTerm×Int) (p:=(x.op,x.arg,x.term,x.to)) h))
def zcc {w:wD} {b o:Nat} {x:DIns} (h:At w b o x):At w b (o+6) x.to:=za7 (α:=DTerm) (β:=Int) (p:=(x.term,x.to)) (za7 (α:=Int) (β:=DTerm×Int) (p:=(x.arg,x.term,x.to)) (za7 (α:=Int) (β:=Int×DTerm×Int) (p:=(x.op,x.arg,x.term,x.to)) h))
instance:RepZ DIns:=⟨⟨(RepZ.zv:Int),(RepZ.zv:Int),(RepZ.zv:DTerm),(RepZ.zv:Int)⟩,RepZ.zc (Int×Int×DTerm×Int),λw=>RepZ.zr (α:=Int×Int×DTerm×Int) w⟩
def zs2 {γ:Type} {H:List Nat->wD->γ->Prop} {F:List Nat} {w:wD} {b o:Nat} {G:List Nat} {x:DIns} {upd:DIns->γ} (h:Lens H F w b o G x upd) :
   ∃ G1,Lens H F w b (o+6) G1 x.to (λy=>upd ⟨x.op,x.arg,x.term,y⟩):=by
 have h':Lens H F w b o G (x.op,x.arg,x.term,x.to) (λp:Int×Int×DTerm×Int=>upd ⟨p.1,p.2.1,p.2.2.1,p.2.2.2⟩):=⟨h.here,h.sub,λw' G' _ hc hO hs=>h.back w' G' _ hc hO hs⟩;obtain ⟨_,h'⟩:=h'.snd;obtain ⟨G1,h'⟩:=h'.snd;obtain ⟨_,h'⟩:=h'.snd;exact ⟨_,h'⟩
structure DCode where
 globals:List ByteArray
 locks:List ByteArray
 procs:List ByteArray
 entry:List Int
 ins:List DIns
def DCode.ext_iff {x y:DCode}:x=y↔(x.globals=y.globals/\x.locks=y.locks/\x.procs=y.procs/\x.entry=y.entry/\x.ins=y.ins):=⟨λh=>by rw [h];exact ⟨rfl,rfl,rfl,rfl,rfl⟩,λh=>by obtain ⟨h0,h1,h2,h3,h4⟩:=h;cases x;cases y;simp only at h0 h1 h2 h3 h4;simp only [h0,h1,h2,h3,h4]⟩
instance:DecidableEq DCode:=λx y=>decidable_of_iff (x.globals=y.globals/\x.locks=y.locks/\x.procs=y.procs/\x.entry=y.entry/\x.ins=y.ins) DCode.ext_iff.symm
instance:Rep DCode:=Rep.via λx=>(x.globals,x.locks,x.procs,x.entry,x.ins)
def zbs {w:wD} {b o:Nat} {x:DCode} (h:At w b o x):At w b (o+0) x.globals:=zcn (α:=List ByteArray) (β:=(List ByteArray)×(List ByteArray)×(List Int)×(List DIns)) (p:=(x.globals,x.locks,x.procs,x.entry,x.ins)) h
def zbU {w:wD} {b o:Nat} {x:DCode} (h:At w b o x):At w b (o+1) x.locks:=zcn (α:=List ByteArray) (β:=(List ByteArray)×(List Int)×(List DIns)) (p:=(x.locks,x.procs,x.entry,x.ins)) (za7 (α:=List ByteArray) (β:=(List ByteArray)×(List ByteArray)×(List Int)×(List DIns)) (p:=(x.globals,x.locks,x.procs,x.entry,x.ins)) h)
def zbd {w:wD} {b o:Nat} {x:DCode} (h:At w b o x):At w b (o+2) x.procs:=zcn (α:=List ByteArray) (β:=(List Int)×(List DIns)) (p:=(x.procs,x.entry,x.ins)) (za7 (α:=List ByteArray) (β:=(List ByteArray)×(List Int)×(List DIns)) (p:=(x.locks,x.procs,x.entry,x.ins)) (za7 (α:=List ByteArray) (β:=(List ByteArray)×(List ByteArray)×(List Int)×(List DIns)) (p:=(x.globals,x.locks,x.procs,x.entry,x.ins)) h))
def zaq {w:wD} {b o:Nat} {x:DCode} (h:At w b o x):At w b (o+3) x.entry:=zcn (α:=List Int) (β:=(List DIns)) (p:=(x.entry,x.ins)) (za7 (α:=List ByteArray) (β:=(List Int)×(List DIns)) (p:=(x.procs,x.entry,x.ins)) (za7 (α:=List ByteArray) (β:=(List ByteArray)×(List Int)×(List DIns)) (p:=(x.locks,x.procs,x.entry,x.ins)) (za7 (α:=List ByteArray) (β:=(List ByteArray)×(List ByteArray)×(List Int)×(List DIns)) (p:=(x.globals,x.locks,x.procs,x.entry,x.ins)) h)))
def zam {w:wD} {b o:Nat} {x:DCode} (h:At w b o x):At w b (o+4) x.ins:=za7 (α:=List Int) (β:=(List DIns)) (p:=(x.entry,x.ins)) (za7 (α:=List ByteArray) (β:=(List Int)×(List DIns)) (p:=(x.procs,x.entry,x.ins)) (za7 (α:=List ByteArray) (β:=(List ByteArray)×(List Int)×(List DIns)) (p:=(x.locks,x.procs,x.entry,x.ins)) (za7 (α:=List ByteArray) (β:=(List ByteArray)×(List ByteArray)×(List Int)×(List DIns)) (p:=(x.globals,x.locks,x.procs,x.entry,x.ins)) h)))
instance:RepZ DCode:=⟨⟨(RepZ.zv:List ByteArray),(RepZ.zv:List ByteArray),(RepZ.zv:List ByteArray),(RepZ.zv:List Int),(RepZ.zv:List DIns)⟩,RepZ.zc ((List ByteArray)×(List ByteArray)×(List ByteArray)×(List Int)×(List DIns)),λw=>RepZ.zr (α:=(List ByteArray)×(List ByteArray)×(List ByteArray)×(List Int)×(List DIns)) w⟩
def zqU {w:wD} {F:List Nat} {cs:List vL} {x:DCode} (h:rep F w cs x):∃ F0 c0 F1 c1 F2 c2 F3 c3 F4 c4,F=(F0++(F1++(F2++(F3++F4))))/\cs=(c0++(c1++(c2++(c3++c4))))/\rep F0 w c0 x.globals/\rep F1 w c1 x.locks/\rep F2 w c2 x.procs/\rep F3 w c3 x.entry/\rep F4 w c4 x.ins:=by
 obtain ⟨F0,_,c0,_,rfl,rfl,h0,h⟩:=h;obtain ⟨F1,_,c1,_,rfl,rfl,h1,h⟩:=h;obtain ⟨F2,_,c2,_,rfl,rfl,h2,h⟩:=h;obtain ⟨F3,_,c3,_,rfl,rfl,h3,h⟩:=h;exact ⟨_,_,_,_,_,_,_,_,_,_,rfl,rfl,h0,h1,h2,h3,h⟩
structure DTouch where
 at_:Int
 global:Int
 write:Bool
 held:Int
def DTouch.ext_iff {x y:DTouch}:x=y↔(x.at_=y.at_/\x.global=y.global/\x.write=y.write/\x.held=y.held):=⟨λh=>by rw [h];exact ⟨rfl,rfl,rfl,rfl⟩,λh=>by obtain ⟨h0,h1,h2,h3⟩:=h;cases x;cases y;simp only at h0 h1 h2 h3;simp only [h0,h1,h2,h3]⟩
instance:DecidableEq DTouch:=λx y=>decidable_of_iff (x.at_=y.at_/\x.global=y.global/\x.write=y.write/\x.held=y.held) DTouch.ext_iff.symm
instance:Rep DTouch:=Rep.via λx=>(x.at_,x.global,x.write,x.held)
def zeD {w:wD} {b o:Nat} {x:DTouch} (h:At w b o x):At w b (o+0) x.at_:=zcn (α:=Int) (β:=Int×Bool×Int) (p:=(x.at_,x.global,x.write,x.held)) h
def zeE {w:wD} {b o:Nat} {x:DTouch} (h:At w b o x):At w b (o+1) x.global:=zcn (α:=Int) (β:=Bool×Int) (p:=(x.global,x.write,x.held)) (za7 (α:=Int) (β:=Int×Bool×Int) (p:=(x.at_,x.global,x.write,x.held)) h)
def zgM {w:wD} {b o:Nat} {x:DTouch} (h:At w b o x):At w b (o+2) x.write:=zcn (α:=Bool) (β:=Int) (p:=(x.write,x.held)) (za7 (α:=Int) (β:=Bool×Int) (p:=(x.global,x.write,x.held)) (za7 (α:=Int) (β:=Int×Bool×Int) (p:=(x.at_,x.global,x.write,x.held)) h))
def zgN {w:wD} {b o:Nat} {x:DTouch} (h:At w b o x):At w b (o+3) x.held:=za7 (α:=Bool) (β:=Int) (p:=(x.write,x.held)) (za7 (α:=Int) (β:=Bool×Int) (p:=(x.global,x.write,x.held)) (za7 (α:=Int) (β:=Int×Bool×Int) (p:=(x.at_,x.global,x.write,x.held)) h))
instance:RepZ DTouch:=⟨⟨(RepZ.zv:Int),(RepZ.zv:Int),(RepZ.zv:Bool),(RepZ.zv:Int)⟩,RepZ.zc (Int×Int×Bool×Int),λw=>RepZ.zr (α:=Int×Int×Bool×Int) w⟩
def zxN {w:wD} {x:DTouch} (h_at_:I64 x.at_) (h_global:I64 x.global)  (h_held:I64 x.held):Mine [] w (.agg #[.int .i64 x.at_,.int .i64 x.global,.bool x.write,.int .i64 x.held]) x:=⟨⟨[.int .i64 x.at_,.int .i64 x.global,.bool x.write,.int .i64 x.held],⟨[],[],[.int .i64 x.at_],[.int .i64 x.global,.bool x.write,.int .i64 x.held],rfl,rfl,⟨rfl,rfl,h_at_⟩,⟨[],[],[.int .i64 x.global],[.bool x.write,.int .i64 x.held],rfl,rfl,⟨rfl,rfl,h_global⟩,⟨[],[],[.bool x.write],[.int .i64 x.held],rfl,rfl,⟨rfl,rfl⟩,⟨rfl,rfl,h_held⟩⟩⟩⟩,rfl⟩,qav,Wr.nil w⟩
instance:Flat DTouch:=⟨λh=>Flat.flat (α:=Int×Int×Bool×Int) h⟩
end Go.Sh
namespace Go.Sh
open Rep (rep)
inductive DStmt where
 | mk (kind:Int) (name:ByteArray) (term:DTerm) (body els:List DStmt)
namespace DStmt
def kind:DStmt->Int | .mk k _ _ _ _=>k
def name:DStmt->ByteArray | .mk _ s _ _ _=>s
def term:DStmt->DTerm | .mk _ _ t _ _=>t
def body:DStmt->List DStmt | .mk _ _ _ b _=>b
def els:DStmt->List DStmt | .mk _ _ _ _ e=>e
def tup (t:DStmt):Int×ByteArray×DTerm×List DStmt×List DStmt:=(t.kind,t.name,t.term,t.body,t.els)
end DStmt
def DStmt.eta (t:DStmt):DStmt.mk t.kind t.name t.term t.body t.els=t:=by cases t;rfl
theorem DStmt.body_lt {t k:DStmt} (h:k∈t.body):SizeOf.sizeOf k<SizeOf.sizeOf t:=by
 cases t with
 | mk a b c l m=>
   have:k∈l:=h;have:=qcD this;simp only [DStmt.mk.sizeOf_spec];omega
theorem DStmt.els_lt {t k:DStmt} (h:k∈t.els):SizeOf.sizeOf k<SizeOf.sizeOf t:=by
 cases t with
 | mk a b c l m=>
   have:k∈m:=h;have:=qcD this;simp only [DStmt.mk.sizeOf_spec];omega
theorem DStmt.ind {p:DStmt->Prop} (h:∀ t,(∀ k∈t.body,p k)->(∀ k∈t.els,p k)->p t) (t:DStmt):p t:=
  h t (λk hk=>DStmt.ind h k) (λk hk=>DStmt.ind h k)
termination_by SizeOf.sizeOf t
decreasing_by
  . exact DStmt.body_lt hk
  exact DStmt.els_lt hk
def slc (n:Nat) (nl:Prop) (w:wD) (F:List Nat) (c:vL) (C:List Nat->List vL->Prop):Prop:=
 ∃ a cap Fi xs,c=.slice a n cap/\n<=cap/\cap<=maxLen/\C Fi xs/\((nl/\F=[])\/∃ b o,a=some ⟨b,o,none⟩/\F=b :: Fi/\w.rangeAt b o xs/\b<w.heap.size)
def zxO {n:Nat} {nl:Prop} {w:wD} {F:List Nat} {c:vL} {C:List Nat->List vL->Prop} (h:slc n nl w F c C):c.oneCell'=true:=by
 obtain ⟨_,_,_,_,rfl,_⟩:=h;rfl
def zv1 {w w':wD} {b:Nat} (hb:b<w.heap.size) (h:w'.heap[b]?=w.heap[b]?):b<w'.heap.size:=by
 rcases qay b (Array.size (World.heap w')) with h' | h'
 . exact h'
 rw [Array.getElem?_eq_none h'] at h;simp [Array.getElem?_eq_getElem hb] at h
def zuh {n:Nat} {nl:Prop} {w w':wD} {F:List Nat} {c:vL} {C C':List Nat->List vL->Prop} (h:slc n nl w F c C) (hk:∀ b∈F,w'.heap[b]?=w.heap[b]?)
   (hC:∀ Fi xs,C Fi xs->(∀ b∈Fi,w'.heap[b]?=w.heap[b]?)->C' Fi xs) (hN:nl->∀ Fi xs,C Fi xs->Fi=[]):slc n nl w' F c C':=by
 obtain ⟨a,cap,Fi,xs,hc,h1,h2,h3,h4⟩:=h;rcases h4 with ⟨hn,rfl⟩ | ⟨b,o,ha,hF,hr,hb⟩
 . exact ⟨a,cap,Fi,xs,hc,h1,h2,hC _ _ h3 (λb hb=>by rw [hN hn _ _ h3] at hb;cases hb),.inl ⟨hn,rfl⟩⟩
 subst hF;have g0:=hk b sS;exact ⟨a,cap,Fi,xs,hc,h1,h2,hC _ _ h3 λc hc=>hk c (by simp [hc]),.inr ⟨b,o,ha,rfl,zbo hr g0,zv1 hb g0⟩⟩
def zCE {n:Nat} {nl:Prop} {w:wD} {F:List Nat} {c:vL} {C:List Nat->List vL->Prop} (h:slc n nl w F c C) (hC:∀ Fi xs,C Fi xs->∀ b∈Fi,b<w.heap.size):∀ b∈F,b<w.heap.size:=by
 obtain ⟨_,_,Fi,xs,_,_,_,h3,h4⟩:=h;intro c hm;rcases h4 with ⟨_,rfl⟩ | ⟨b,_,_,hF,_,hb⟩
 . cases hm
 subst hF;rcases qaa.1 hm with rfl | hm
 . exact hb
 exact hC _ _ h3 c hm
mutual
def zv2:DStmt->List Nat->wD->List vL->Prop
  | .mk k s t bs es,F,w,cs=>∃ Ft ct Fb cb Fe ce,F=Ft++(Fb++Fe)/\cs=.int .i64 k :: .string s :: (ct++[cb,ce])/\I64 k/\s.size<=maxLen/\rep Ft w ct t /\
    slc bs.length (bs=[]) w Fb cb (λFi xs=>zfj bs Fi w xs)/\slc es.length (es=[]) w Fe ce (λFi xs=>zfj es Fi w xs)
def zfj:List DStmt->List Nat->wD->List vL->Prop
  | [],F,_,xs=>F=[]/\xs=[]
  | y :: ys,F,w,xs=>∃ F1 F2 c1 c2,F=F1++F2/\xs=c1++c2/\zv2 y F1 w c1/\zfj ys F2 w c2
end
def zn3 {l:List DStmt} (h:l=[]) {w:wD} (Fi:List Nat) (xs:List vL) (hc:zfj l Fi w xs):Fi=[]:=by
 subst h;rw [zfj] at hc;exact hc.1
def zA6 {t:DStmt} {F:List Nat} {w:wD} {cs:List vL} (h:zv2 t F w cs):cs.length=8:=by
 cases t;rw [zv2] at h;obtain ⟨_,_,_,_,_,_,_,rfl,_,_,ht,_⟩:=h;have:=Rep.len ht;simp only [qak,qag,qaC,this];rfl
def zA7 {t:DStmt} {F:List Nat} {w:wD} {cs:List vL} (h:zv2 t F w cs):∀ v∈cs,v.oneCell'=true:=by
 cases t;rw [zv2] at h;obtain ⟨_,_,_,_,_,_,_,rfl,_,_,ht,hb,he⟩:=h;intro v hv;simp only [qaa,qae,qad,qaq] at hv;rcases hv with rfl | rfl | hv | rfl | rfl
 . rfl
 . rfl
 . exact Rep.one ht v hv
 . exact zxO hb
 exact zxO he
mutual
theorem zqV:∀ (t:DStmt) {F:List Nat} {w w':wD} {cs:List vL},zv2 t F w cs->(∀ b∈F,w'.heap[b]?=w.heap[b]?)->zv2 t F w' cs
  | .mk k s t bs es,F,w,w',cs,h,hk=>by
    rw [zv2] at h ⊢;obtain ⟨Ft,ct,Fb,cb,Fe,ce,hF,hcs,i1,i2,ht,hb,he⟩:=h;subst hF
    exact ⟨Ft,ct,Fb,cb,Fe,ce,rfl,hcs,i1,i2,Rep.keep ht λb hb=>hk b (by simp [hb]),
      zuh hb (λb hb=>hk b (by simp [hb])) (λFi xs hc hx=>ziB bs hc hx) λh=>zn3 h,
      zuh he (λb hb=>hk b (by simp [hb])) (λFi xs hc hx=>ziB es hc hx) λh=>zn3 h⟩
theorem ziB:∀ (l:List DStmt) {F:List Nat} {w w':wD} {cs:List vL},zfj l F w cs->(∀ b∈F,w'.heap[b]?=w.heap[b]?)->zfj l F w' cs
  | [],F,w,w',cs,h,_=>by rw [zfj] at h ⊢;exact h
  | y :: ys,F,w,w',cs,h,hk=>by
    rw [zfj] at h ⊢;obtain ⟨F1,F2,c1,c2,rfl,rfl,h1,h2⟩:=h;exact ⟨F1,F2,c1,c2,rfl,rfl,zqV y h1 λb hb=>hk b (by simp [hb]),ziB ys h2 λb hb=>hk b (by simp [hb])⟩
end
mutual
theorem zxP:∀ (t:DStmt) {F:List Nat} {w:wD} {cs:List vL},zv2 t F w cs->∀ b∈F,b<w.heap.size
  | .mk k s t bs es,F,w,cs,h,c,hm=>by
    rw [zv2] at h;obtain ⟨Ft,ct,Fb,cb,Fe,ce,hF,hcs,i1,i2,ht,hb,he⟩:=h;subst hF;rcases qae.1 hm with hm | hm
    . exact Rep.lt ht c hm
    rcases qae.1 hm with hm | hm
    . exact zCE hb (λFi xs hc=>zlW bs hc) c hm
    exact zCE he (λFi xs hc=>zlW es hc) c hm
theorem zlW:∀ (l:List DStmt) {F:List Nat} {w:wD} {cs:List vL},zfj l F w cs->∀ b∈F,b<w.heap.size
  | [],F,w,cs,h,c,hm=>by rw [zfj] at h;rw [h.1] at hm;cases hm
  | y :: ys,F,w,cs,h,c,hm=>by
    rw [zfj] at h;obtain ⟨F1,F2,c1,c2,rfl,rfl,h1,h2⟩:=h;rcases qae.1 hm with hm | hm
    . exact zxP y h1 c hm
    exact zlW ys h2 c hm
end
instance:Rep DStmt where
 size:=8
 agg:=true
 rep F w cs x:=zv2 x F w cs
 pos:=by decide
 sz h:=by cases h
 len h:=zA6 h
 one h:=zA7 h
 keep h hk:=zqV _ h hk
 lt h:=zxP _ h
theorem zjj {w:wD}:∀ {l:List DStmt} {F:List Nat} {xs:List vL},zfj l F w xs↔Cells F w xs l
 | [],F,xs=>by rw [zfj];exact Iff.rfl
 | y :: ys,F,xs=>by
   rw [zfj];constructor
   . rintro ⟨F1,F2,c1,c2,h1,h2,h3,h4⟩;exact ⟨F1,F2,c1,c2,h1,h2,h3,zjj.1 h4⟩
   rintro ⟨F1,F2,c1,c2,h1,h2,h3,h4⟩;exact ⟨F1,F2,c1,c2,h1,h2,h3,zjj.2 h4⟩
def zpg {w:wD} {F:List Nat} {c:vL} {l:List DStmt}:slc l.length (l=[]) w F c (λFi xs=>zfj l Fi w xs)↔rep F w [c] l:=by
 constructor
 . rintro ⟨a,cap,Fi,xs,rfl,h1,h2,h3,h4⟩;exact ⟨a,cap,Fi,xs,rfl,h1,h2,zjj.1 h3,h4⟩
 rintro ⟨a,cap,Fi,xs,hc,h1,h2,h3,h4⟩;exact ⟨a,cap,Fi,xs,by simpa using hc,h1,h2,zjj.2 h3,h4⟩
def ze5 {w:wD} {F:List Nat} {cs:List vL} {l:List DStmt} (h:rep F w cs l):∃ c,cs=[c]:=by
 obtain ⟨_,_,_,_,rfl,_⟩:=h;exact ⟨_,rfl⟩
def zfW {w:wD} {F:List Nat} {cs:List vL} {t:DStmt}:rep F w cs t↔rep F w cs t.tup:=by
 obtain ⟨k,s,t,_,_⟩:=t;show zv2 _ F w cs↔_;rw [zv2];constructor
 . rintro ⟨Ft,ct,Fb,cb,Fe,ce,rfl,rfl,i1,i2,ht,hb,he⟩;exact ⟨[],_,[.int .i64 k],_,rfl,rfl,⟨rfl,rfl,i1⟩,[],_,[.string s],_,rfl,rfl,⟨rfl,rfl,i2⟩,Ft,Fb++Fe,ct,[cb,ce],rfl,rfl,ht,Fb,Fe,[cb],[ce],rfl,rfl,zpg.1 hb,zpg.1 he⟩
 rintro ⟨_,_,_,_,rfl,rfl,⟨rfl,rfl,i1⟩,_,_,_,_,rfl,rfl,⟨rfl,rfl,i2⟩,Ft,_,ct,_,rfl,rfl,ht,Fb,Fe,_,_,rfl,rfl,hb,he⟩;obtain ⟨cb,rfl⟩:=ze5 hb;obtain ⟨ce,rfl⟩:=ze5 he;exact ⟨Ft,ct,Fb,cb,Fe,ce,rfl,rfl,i1,i2,ht,zpg.2 hb,zpg.2 he⟩
def zxQ {w:wD} {b o:Nat} {t:DStmt}:At w b o t↔At w b o t.tup:=
 ⟨λ⟨F,cs,h,k⟩=>⟨F,cs,zfW.1 h,k⟩,λ⟨F,cs,h,k⟩=>⟨F,cs,zfW.2 h,k⟩⟩
def zui {w:wD} {G:List Nat} {b o:Nat} {t:DStmt}:OAt G w b o t↔OAt G w b o t.tup:=
 ⟨λ⟨cs,h,k⟩=>⟨cs,zfW.1 h,k⟩,λ⟨cs,h,k⟩=>⟨cs,zfW.2 h,k⟩⟩
section
variable {w:wD} {b o:Nat} {x:DStmt}
def zdb (h:At w b o x):At w b (o+0) x.kind:=zcn (α:=Int) (β:=ByteArray×DTerm×List DStmt×List DStmt) (p:=x.tup) (zxQ.1 h)
def zFZ (h:At w b o x):At w b (o+1) (x.name,x.term,x.body,x.els):=za7 (α:=Int) (β:=ByteArray×DTerm×List DStmt×List DStmt) (p:=x.tup) (zxQ.1 h)
def zbV (h:At w b o x):At w b (o+1) x.name:=zcn (α:=ByteArray) (β:=DTerm×List DStmt×List DStmt) (p:=(x.name,x.term,x.body,x.els)) (zFZ h)
def zF0 (h:At w b o x):At w b (o+2) (x.term,x.body,x.els):=za7 (α:=ByteArray) (β:=DTerm×List DStmt×List DStmt) (p:=(x.name,x.term,x.body,x.els)) (zFZ h)
def zdZ (h:At w b o x):At w b (o+2) x.term:=zcn (α:=DTerm) (β:=List DStmt×List DStmt) (p:=(x.term,x.body,x.els)) (zF0 h)
def zF1 (h:At w b o x):At w b (o+6) (x.body,x.els):=za7 (α:=DTerm) (β:=List DStmt×List DStmt) (p:=(x.term,x.body,x.els)) (zF0 h)
def zdF (h:At w b o x):At w b (o+6) x.body:=zcn (α:=List DStmt) (β:=List DStmt) (p:=(x.body,x.els)) (zF1 h)
def zdc (h:At w b o x):At w b (o+7) x.els:=za7 (α:=List DStmt) (β:=List DStmt) (p:=(x.body,x.els)) (zF1 h)
def zxR {F0:List Nat} {c0:List vL} (h0:rep F0 w c0 x.kind) {F1:List Nat} {c1:List vL} (h1:rep F1 w c1 x.name) {F2:List Nat} {c2:List vL} (h2:rep F2 w c2 x.term) {F3:List Nat} {c3:List vL} (h3:rep F3 w c3 x.body) {F4:List Nat} {c4:List vL} (h4:rep F4 w c4 x.els) :
   rep (F0++(F1++(F2++(F3++F4)))) w (c0++(c1++(c2++(c3++c4)))) x:=zfW.2 (zaR h0 (zaR h1 (zaR h2 (zaR h3 h4))))
end
def Lens.stmt {w:wD} {γ:Type} {H:List Nat->wD->γ->Prop} {F:List Nat} {b o:Nat} {G:List Nat} {t:DStmt} {upd:DStmt->γ} (h:Lens H F w b o G t upd) :
   Lens H F w b o G t.tup (λp=>upd (.mk p.1 p.2.1 p.2.2.1 p.2.2.2.1 p.2.2.2.2)):=
 ⟨zui.1 h.here,h.sub,λw' G' y' hc hO hs=>h.back w' G' _ hc (zui.2 hO) hs⟩
instance:RepZ DStmt:=⟨.mk 0 ByteArray.empty RepZ.zv [] [],RepZ.zc (Int×ByteArray×DTerm×List DStmt×List DStmt),λw=>zfW.2 (RepZ.zr (α:=Int×ByteArray×DTerm×List DStmt×List DStmt) w)⟩
section
variable {γ:Type} {H:List Nat->wD->γ->Prop} {F:List Nat} {w:wD} {b o:Nat} {G:List Nat} {x:DStmt} {upd:DStmt->γ}
def zqW (h:Lens H F w b o G x upd):∃ G1,Lens H F w b (o+1) G1 x.name (λy=>upd (.mk x.kind y x.term x.body x.els)):=by
 obtain ⟨G1,h1⟩:=h.stmt.snd;obtain ⟨G2,h2⟩:=h1.fst;exact ⟨G2,h2⟩
def zqX (h:Lens H F w b o G x upd):∃ G1,Lens H F w b (o+6) G1 x.body (λy=>upd (.mk x.kind x.name x.term y x.els)):=by
 obtain ⟨G1,h1⟩:=h.stmt.snd;obtain ⟨_,h2⟩:=h1.snd;obtain ⟨_,h3⟩:=h2.snd;obtain ⟨G4,h4⟩:=h3.fst;exact ⟨G4,h4⟩
def zk2 (h:Lens H F w b o G x upd):∃ G1,Lens H F w b (o+7) G1 x.els (λy=>upd (.mk x.kind x.name x.term x.body y)):=by
 obtain ⟨G1,h1⟩:=h.stmt.snd;obtain ⟨_,h2⟩:=h1.snd;obtain ⟨_,h3⟩:=h2.snd;obtain ⟨G4,h4⟩:=h3.snd;exact ⟨G4,h4⟩
end
structure DProc where
 name:ByteArray
 body:List DStmt
def DProc.ext_iff {x y:DProc}:x=y↔(x.name=y.name/\x.body=y.body):=⟨λh=>by rw [h];exact ⟨rfl,rfl⟩,λh=>by obtain ⟨h0,h1⟩:=h;cases x;cases y;simp only at h0 h1;simp only [h0,h1]⟩
instance:Rep DProc:=Rep.via λx=>(x.name,x.body)
def zhV {w:wD} {b o:Nat} {x:DProc} (h:At w b o x):At w b (o+0) x.name:=zcn (α:=ByteArray) (β:=(List DStmt)) (p:=(x.name,x.body)) h
def zke {w:wD} {b o:Nat} {x:DProc} (h:At w b o x):At w b (o+1) x.body:=za7 (α:=ByteArray) (β:=(List DStmt)) (p:=(x.name,x.body)) h
instance:RepZ DProc:=⟨⟨(RepZ.zv:ByteArray),(RepZ.zv:List DStmt)⟩,RepZ.zc (ByteArray×(List DStmt)),λw=>RepZ.zr (α:=ByteArray×(List DStmt)) w⟩
structure DProg where
 globals:List ByteArray
 locks:List ByteArray
 procs:List DProc
def DProg.ext_iff {x y:DProg}:x=y↔(x.globals=y.globals/\x.locks=y.locks/\x.procs=y.procs):=⟨λh=>by rw [h];exact ⟨rfl,rfl,rfl⟩,λh=>by obtain ⟨h0,h1,h2⟩:=h;cases x;cases y;simp only at h0 h1 h2;simp only [h0,h1,h2]⟩
instance:Rep DProg:=Rep.via λx=>(x.globals,x.locks,x.procs)
def zgp {w:wD} {b o:Nat} {x:DProg} (h:At w b o x):At w b (o+0) x.globals:=zcn (α:=List ByteArray) (β:=(List ByteArray)×(List DProc)) (p:=(x.globals,x.locks,x.procs)) h
def zhW {w:wD} {b o:Nat} {x:DProg} (h:At w b o x):At w b (o+1) x.locks:=zcn (α:=List ByteArray) (β:=(List DProc)) (p:=(x.locks,x.procs)) (za7 (α:=List ByteArray) (β:=(List ByteArray)×(List DProc)) (p:=(x.globals,x.locks,x.procs)) h)
def zcw {w:wD} {b o:Nat} {x:DProg} (h:At w b o x):At w b (o+2) x.procs:=za7 (α:=List ByteArray) (β:=(List DProc)) (p:=(x.locks,x.procs)) (za7 (α:=List ByteArray) (β:=(List ByteArray)×(List DProc)) (p:=(x.globals,x.locks,x.procs)) h)
instance:RepZ DProg:=⟨⟨(RepZ.zv:List ByteArray),(RepZ.zv:List ByteArray),(RepZ.zv:List DProc)⟩,RepZ.zc ((List ByteArray)×(List ByteArray)×(List DProc)),λw=>RepZ.zr (α:=(List ByteArray)×(List ByteArray)×(List DProc)) w⟩
section
variable {w:wD} {lo hi:Nat}
def zgq {k n:Int} {s:ByteArray} {v:vL} {l:List DTerm} (hk:I64 k) (hn:I64 n) (hs:s.size<=maxLen) (h:OwnI lo hi w v l):OwnI lo hi w (.agg #[.int .i64 k,.int .i64 n,.string s,v]) (DTerm.mk k n s l):=by
 obtain ⟨F,⟨⟨_,hr,rfl⟩,g0,hw⟩,hF⟩:=h;obtain ⟨a,cap,Fi,xs,rfl,h1,h2,hc,h4⟩:=hr;exact ⟨F,⟨⟨_,zxM (x:=.mk k n s l) (F0:=[]) (F1:=[]) (F2:=[]) ⟨rfl,rfl,hk⟩ ⟨rfl,rfl,hn⟩ ⟨rfl,rfl,hs⟩ ⟨a,cap,Fi,xs,rfl,h1,h2,hc,h4⟩,rfl⟩,g0,hw⟩,hF⟩
def zhX {v:vL} {t:DTerm} (h:Is w v t):∃ a cap,v=.agg #[.int .i64 t.kind,.int .i64 t.num,.string t.name,.slice a t.kids.length cap]:=by
 obtain ⟨F,cs,hr,rfl⟩:=h;obtain ⟨k,n,s,ks⟩:=t;rw [show rep F w cs (DTerm.mk k n s ks)=zs1 (.mk k n s ks) F w cs from rfl,zs1] at hr;obtain ⟨a,cap,_,_,rfl,_⟩:=hr;exact ⟨a,cap,rfl⟩
def zxS {k:Int} {s:ByteArray} {t:DTerm} {vb ve:vL} {bs es:List DStmt} {tc:Array vL} {l0 h0 l1 h1 l2 h2:Nat} (hk:I64 k) (hs:s.size<=maxLen) (ht:OwnI l0 h0 w (.agg tc) t) (hb:OwnI l1 h1 w vb bs) (he:OwnI l2 h2 w ve es)
   (d01:h0<=l1\/h1<=l0) (d02:h0<=l2\/h2<=l0) (d12:h1<=l2\/h2<=l1) (b0:lo<=l0/\h0<=hi) (b1:lo<=l1/\h1<=hi) (b2:lo<=l2/\h2<=hi) :
   OwnI lo hi w (.agg ([Value.int .i64 k,Value.string s]++tc.toList++[vb,ve]).toArray) (DStmt.mk k s t bs es):=by
 obtain ⟨F0,⟨⟨c0,r0,e0⟩,n0,w0⟩,B0⟩:=ht;obtain ⟨F1,⟨⟨_,r1,e1⟩,n1,w1⟩,B1⟩:=hb;obtain ⟨F2,⟨⟨_,r2,e2⟩,n2,w2⟩,B2⟩:=he
 have g0:tc.toList=c0:=by
   simp only [mkv,Rep.agg,cond_true,Value.agg.injEq] at e0;rw [e0]
 obtain ⟨_,rfl⟩:=ze5 r1;obtain ⟨_,rfl⟩:=ze5 r2;simp only [mkv,Rep.agg,cond_false,qbd] at e1 e2;subst e1 e2;refine ⟨F0++(F1++F2),⟨⟨_,zxR (x:=.mk k s t bs es) (F0:=[]) (F1:=[]) ⟨rfl,rfl,hk⟩ ⟨rfl,rfl,hs⟩ r0 r1 r2,?_⟩,?_,w0.append (w1.append w2)⟩,λx hx=>?_⟩
 . rw [g0];simp [mkv,Rep.agg,DStmt.kind,DStmt.name]
 . rw [qas,qas];refine ⟨n0,⟨n1,n2,λp hp q hq e=>?_⟩,λp hp q hq e=>?_⟩
   . subst e;have:=B1 p hp;have:=B2 p hq;omega
   subst e;have:=B0 p hp;rcases qae.1 hq with hq | hq
   . have:=B1 p hq;omega
   have:=B2 p hq;omega
 rcases qae.1 hx with hx | hx
 . have:=B0 x hx;omega
 rcases qae.1 hx with hx | hx
 . have:=B1 x hx;omega
 have:=B2 x hx;omega
end
end Go.Sh
namespace Go.Sh
open Rep (rep)
variable {x:Int}
def zsM (x:Int):Int:=IntKind.i64.wrap x
def zv3 (a b:Int):Int:=zsM ((BitVec.ofInt 64 a &&& BitVec.ofInt 64 b).toNat:Nat)
def zG9 (a b:Int):Int:=zsM ((BitVec.ofInt 64 a ^^^ BitVec.ofInt 64 b).toNat:Nat)
def zF2 (a:Int) (n:Nat):Int:=a.fdiv (2^(min n 64))
def zEf (x:Int):I64 (zsM x):=by
 have e:zsM x=if x%18446744073709551616>=9223372036854775808 then x%18446744073709551616-18446744073709551616 else x%18446744073709551616:=by
   simp [zsM,IntKind.wrap,IntKind.signed,IntKind.bits]
 unfold I64;rw [e];split<;>omega
def zxT (h:I64 x):zsM x=x:=IntWalk.i64_in _ h
def zph (a:Int) {n:Nat} (hn:n<9223372036854775808):0<=zv3 a n/\zv3 a n<=n:=by
 have:(BitVec.ofInt 64 a &&& BitVec.ofInt 64 (n:Int)).toNat<=n:=by
   rw [BitVec.toNat_and];refine qat Nat.and_le_right ?_;rw [BitVec.ofInt_natCast,BitVec.toNat_ofNat,qbA oo];exact qaz _
 unfold zv3;rw [zxT io];omega
section
variable {P:pG} {w:wD} {K:vL->Prop} {t:TypeId} {x y:Operand} {a b:Int}
def zxU (k:K (.int .i64 (zsM (a+b)))):RD P (bin .add t x y (.int .i64 a) (.int .i64 b)) w K:=
 zba (λw' _=>by simp [bin,eqGuard,binOp,Op.intArith,zsM]) k
def zEg (k:K (.int .i64 (zsM (a*b)))):RD P (bin .mul t x y (.int .i64 a) (.int .i64 b)) w K:=
 zba (λw' _=>by simp [bin,eqGuard,binOp,Op.intArith,zsM]) k
def zs3 (k:K (.int .i64 (zv3 a b))):RD P (bin .and t x y (.int .i64 a) (.int .i64 b)) w K:=by
 refine zba (λw' _=>?_) k;show (do eqGuard .and t x y (.int .i64 a) (.int .i64 b);binOp .and t (.int .i64 a) (.int .i64 b):Sem vL).run P w'=_;simp only [eqGuard,binOp,Op.intBits];rfl
def zEh (k:K (.int .i64 (zG9 a b))):RD P (bin .xor t x y (.int .i64 a) (.int .i64 b)) w K:=by
 refine zba (λw' _=>?_) k;show (do eqGuard .xor t x y (.int .i64 a) (.int .i64 b);binOp .xor t (.int .i64 a) (.int .i64 b):Sem vL).run P w'=_;simp only [eqGuard,binOp,Op.intBits];rfl
def zxV {n:Nat} {ku:IntKind} (k:K (.int .i64 (zF2 a n))):RD P (bin .shr t x y (.int .i64 a) (.int ku (n:Int))) w K:=by
 refine zba (λw' _=>?_) k;have e0:¬((n:Int)<0):=oo;show (do eqGuard .shr t x y (.int .i64 a) (.int ku (n:Int));binOp .shr t (.int .i64 a) (.int ku (n:Int)):Sem vL).run P w'=_;simp only [eqGuard,binOp,Op.shift,e0,if_false,qal];rfl
def zxW {g0 dst:TypeId} {n:Nat} (hs:(P.underlying g0).isSome=true) (hd:P.underlying dst=some (.int .i64)) (hn:n<256) (k:K (.int .i64 (n:Int))):RD P (convert g0 dst (.int .u8 (n:Int))) w K:=by
 refine zba (λ_ _=>?_) k;obtain ⟨_,g1⟩:=Option.isSome_iff_exists.mp hs;have:IntKind.i64.wrap (n:Int)=n:=IntWalk.i64_in _ oo;simp [convert,run_underlying g1,run_underlying hd,Conv.intToInt,this]
end
def zxX {a n:Int} (h0:0<=a) (hn:0<n):0<=a.tmod n/\a.tmod n<n:=by
 rw [qce h0];exact ⟨Int.emod_nonneg _ oo,Int.emod_lt_of_pos _ hn⟩
end Go.Sh
namespace Go.Sh
section
variable {P:pG} {g:Cfg} {s u:Env} {w:wD} {K:Exit->Env->wD->Prop} {E:Env->wD->Prop} {J:vL->wD->Prop} {ρ:Operand->vL} {a b:Code} {id i n t d m fl:Nat} {v:vL} {l:List Nat} {ol:List Oper} {ops:Array Oper} {c:Bool} {ext:Xt} {o:Oper} {x y z:Operand}
def zhm {α:Sort _} {c:Bool} {p q:α}:cond c p q=if c=true then p else q:=by cases c<;>rfl
def zuj:(Nat.beq n m=true)=(n=m):=Nat.beq_eq
def zs4:(zbA m t=true)=((m >>> t)%2=1):=by
 unfold zbA;rw [zuj];show (1 &&& (m >>> t)=1)=_;rw [qdg,qcL]
def zA8:(List.elem n []=true)=False:=by simp [List.elem]
def zA9:(List.elem n (m :: l)=true)=(n=m\/List.elem n l=true):=by simp [List.elem_cons]
theorem zF3:upd s d v t=if t=d then v else s t:=by
 unfold upd;by_cases h:t=d
 . rw [qah h,show Nat.beq t d=true from zuj▸h];rfl
 rw [qab h];cases h2:Nat.beq t d with
 | true=>exact absurd (zuj▸h2) h
 | false=>rfl
theorem zF4:mix m s u t=if (m >>> t)%2=1 then u t else s t:=by
 unfold mix;by_cases h:(m >>> t)%2=1
 . rw [qah h,show zbA m t=true from zs4▸h];rfl
 rw [qab h];cases h2:zbA m t with
 | true=>exact absurd (zs4▸h2) h
 | false=>rfl
def Jn (P:pG) (g:Cfg) (a b:Code) (s:Env) (w:wD) (K:Exit->Env->wD->Prop):Option (Nat×List Nat)->Prop
 | some (m,L)=>JOIN L (λJ=>vc P g a s w (zlh K λs' w'=>J (L.map s') w')) (λu w'=>vc P g b (mix m s u) w' K)
 | none=>vc P g a s w (zlh K λs' w'=>vc P g b s' w' K)
def Lp (P:pG) (g:Cfg) (c:Code) (s:Env) (w:wD) (K:Exit->Env->wD->Prop):Option (Nat×List Nat)->Prop
 | some (m,L)=>LOOPI L (L.map s) w λu w' next=>vc P g c (mix m s u) w' (zlh K λs' w''=>next (L.map s') w'')
 | none=>False
def R3 (P:pG) (g:Cfg) (id:Nat) (ol:List Oper) (s:Env) (w:wD) (K:Env->wD->Prop):Option (List Nat×Nat)->Prop
 | some (l,fl)=>if g.xs.elem id=true then XR (λX=>zfm P ⟨g.ext,some X⟩ ol fl K l s w) else zfm P ⟨g.ext,none⟩ ol fl K l s w
 | none=>False
def R2 (P:pG) (g:Cfg) (id:Nat) (ol:List Oper) (s:Env) (w:wD) (K:Env->wD->Prop):Option (Nat×Nat)->Prop
 | some (m,p)=>zGY P ⟨g.ext,none⟩ ol m p s w K
 | none=>R3 P g id ol s w K (find g.draws id)
def R1 (P:pG) (g:Cfg) (id:Nat) (ol:List Oper) (s:Env) (w:wD) (K:Env->wD->Prop):Option Nat->Prop
 | some m=>zAT P ⟨g.ext,none⟩ ol m s w K
 | none=>R2 P g id ol s w K (find g.pars id)
def zEi:vc P g .skip s w K=K .normal s w:=by rw [vc]
def zF5:vc P g (.region id ops false) s w K=zfm P ⟨g.ext,none⟩ ops.toList 0 (K .normal) (List.range ops.size) s w:=by rw [vc]
theorem zEj:vc P g (.region id ops true) s w K=R1 P g id ops.toList s (World.drew1 w) (K .normal) (find g.gpars id):=by
 rw [vc];cases h1:find g.gpars id with
 | some m=>rfl
 | none=>
   show _=R2 P g id ops.toList s (World.drew1 w) (K .normal) (find g.pars id);cases h2:find g.pars id with
   | some m=>rfl
   | none=>
     show _=R3 P g id ops.toList s (World.drew1 w) (K .normal) (find g.draws id);cases h3:find g.draws id with
     | some m=>obtain ⟨_,_⟩:=m;show (bif _ then _ else _)=_;rw [zhm];rfl
     | none=>rfl
def zF6:vc P g (.seq a b) s w K=Jn P g a b s w K ((zaH b).bind (find g.joins)):=by
 rw [vc];cases (zaH b).bind (find g.joins)<;>rfl
def zBa:vc P g (.block id a) s w K=vc P g a s w (zlN id K):=by rw [vc]
def zEk:vc P g (.loop a) s w K=Lp P g a s w K ((zaH a).bind (find g.loops)):=by
 rw [vc];cases (zaH a).bind (find g.loops)<;>rfl
def zEl:vc P g (.exit id) s w K=K (.exit id) s w:=by rw [vc]
def zF7:vc P g .ret s w K=K .ret s w:=by rw [vc]
def BRq (v:vL) (kt kf:Prop):Prop:=BR v kt kf
def zEm (v:vL) (kt kf ks:Prop):Prop:=GBR v kt kf ks
def zF8 {kt kf:Prop}:BRq v kt kf=BR v kt kf:=Eq.trans rfl rfl
def zEn {kt kf ks:Prop}:zEm v kt kf ks=GBR v kt kf ks:=Eq.trans rfl rfl
def zCF {kt kf:Prop}:BR (.bool true) kt kf=kt:=Eq.trans rfl rfl
def zCG {kt kf:Prop}:BR (.bool false) kt kf=kf:=Eq.trans rfl rfl
def zxY {kt kf ks:Prop}:GBR (.bool true) kt kf ks=kt:=Eq.trans rfl rfl
def zxZ {kt kf ks:Prop}:GBR (.bool false) kt kf ks=kf:=Eq.trans rfl rfl
def zCH {kt kf:Prop}:BR undef kt kf=False:=Eq.trans rfl rfl
def zx0 {kt kf ks:Prop}:GBR undef kt kf ks=ks:=Eq.trans rfl rfl
@[congr] theorem zHF {kt kf:Prop} {q q':vL} (h:q=q'):BRq q kt kf=BRq q' kt kf:=by rw [h]
@[congr] theorem zHa {kt kf ks:Prop} {q q':vL} (h:q=q'):zEm q kt kf ks=zEm q' kt kf ks:=by rw [h]
theorem zF9:vc P g (.cond x a b) s w K=BRq (ev s x) (vc P g a (lit s x true) w K) (vc P g b (lit s x false) w K):=by rw [vc];rfl
def FR:Option Nat->Code->Option Nat
 | some i,_=>some i
 | none,b=>zaH b
def zCI:zaH (.region id ops c)=some id:=Eq.trans rfl rfl
def zCJ:zaH (.seq a b)=FR (zaH a) b:=by rw [zaH];cases zaH a<;>rfl
def zCK:zaH (.block id a)=zaH a:=Eq.trans rfl rfl
def zCL:zaH (.loop a)=zaH a:=Eq.trans rfl rfl
def zCM:zaH (.cond x a b)=none:=Eq.trans rfl rfl
def zCN:zaH (.exit id)=none:=Eq.trans rfl rfl
def zCO:zaH .ret=none:=Eq.trans rfl rfl
def zuk {α:Type}:find ([]:List (Nat×α)) n=none:=Eq.trans rfl rfl
def zul {α:Type} {k:Nat} {q:α} {r:List (Nat×α)}:find ((k,q) :: r) n=if Nat.beq k n=true then some q else find r n:=by rw [find,zhm]
def zum {N:Env->wD->Prop}:zlh K N .normal s w=N s w:=Eq.trans rfl rfl
def zun {N:Env->wD->Prop}:zlh K N (.exit id) s w=K (.exit id) s w:=Eq.trans rfl rfl
def zuo {N:Env->wD->Prop}:zlh K N .ret s w=K .ret s w:=Eq.trans rfl rfl
def zCP:zlN id K (.exit i) s w=if Nat.beq i id=true then K .normal s w else K (.exit i) s w:=by rw [zlN,zhm]
def zCQ:zlN id K .normal s w=K .normal s w:=Eq.trans rfl rfl
def zCR:zlN id K .ret s w=K .ret s w:=Eq.trans rfl rfl
def zx1 {rs:List ResultVar}:zFU P rs J .normal s w=zsP P s w rs λvs=>J (one vs) w:=Eq.trans rfl rfl
def zx2 {rs:List ResultVar}:zFU P rs J .ret s w=zsP P s w rs λvs=>J (one vs) w:=Eq.trans rfl rfl
def zx3 {k:List vL->Prop}:zsP P s w [] k=k []:=Eq.trans rfl rfl
def zx4 {r:List ResultVar} {k:List vL->Prop}:zsP P s w (.tmp t :: r) k=zsP P s w r λvs=>k (s t :: vs):=Eq.trans rfl rfl
def zx5 {r:List ResultVar} {k:List vL->Prop}:zsP P s w (.cell i t :: r) k=RD P (zfA t (s i)) w λv=>zsP P s w r λvs=>k (v :: vs):=Eq.trans rfl rfl
def zx6:one [v]=v:=Eq.trans rfl rfl
def zx7:one []=.tuple #[]:=Eq.trans rfl rfl
def zx8 {q:vL} {r:List vL}:one (v :: q :: r)=.tuple (v :: q :: r).toArray:=Eq.trans rfl rfl
def zCS:ev s (.tmp t)=s t:=Eq.trans rfl rfl
def zCT:ev s (.const v)=v:=Eq.trans rfl rfl
def zCU:ev s (.func n)=.func (.func n) #[] #[]:=Eq.trans rfl rfl
def zx9:put s (some d) v=upd s d v:=Eq.trans rfl rfl
def zya:put s none v=s:=Eq.trans rfl rfl
def zyb {c:Bool}:lit s (.tmp t) c=upd s t (.bool c):=Eq.trans rfl rfl
def zyc {α:Type} {q:α} {r:List α}:nth (q :: r) 0=some q:=Eq.trans rfl rfl
def zyd {α:Type} {q:α} {r:List α}:nth (q :: r) (n+1)=nth r n:=Eq.trans rfl rfl
def nD:Option vL->vL
 | some v=>v
 | none=>undef
def zEo {r:List vL}:zD5 r t=nD (nth r t):=by unfold zD5;cases nth r t<;>rfl
def zCV:nD (some v)=v:=Eq.trans rfl rfl
def zye:zfm P ext ol fl E [] s w=E s w:=Eq.trans rfl rfl
def zyf {r:List Nat}:zfm P ext ol fl E (i :: r) s w=zgl P ext ol fl i s w (zfm P ext ol fl E r):=Eq.trans rfl rfl
def S3 (P:pG) (ext:Xt) (o:Oper) (flag:Bool) (s:Env) (w:wD) (E:Env->wD->Prop) (d:Nat) (want:Bool):Option (Option (Nat×Bool))->Prop
 | some (some _)=>zEm (s d)
         (if want=true then opF P ext o flag (upd s d (.bool true)) w E else E (put (upd s d (.bool true)) o.dst undef) w)
         (if want=true then E (put (upd s d (.bool false)) o.dst undef) w else opF P ext o flag (upd s d (.bool false)) w E)
         (E (put (upd s d undef) o.dst undef) w)
 | _=>BRq (s d)
         (if want=true then opF P ext o flag (upd s d (.bool true)) w E else E (put (upd s d (.bool true)) o.dst undef) w)
         (if want=true then E (put (upd s d (.bool false)) o.dst undef) w else opF P ext o flag (upd s d (.bool false)) w E)
def S2 (P:pG) (ext:Xt) (ol:List Oper) (j:Nat) (o:Oper) (flag:Bool) (s:Env) (w:wD) (E:Env->wD->Prop) (want:Bool):Option Nat->Prop
 | none=>False
 | some d=>S3 P ext o flag s w E d want (match (nth ol j).bind (·.guard) with | none=>none | some q=>some (some q))
def S1 (P:pG) (ext:Xt) (ol:List Oper) (fl i:Nat) (s:Env) (w:wD) (E:Env->wD->Prop) (o:Oper):Option (Nat×Bool)->Prop
 | none=>opF P ext o (zbA fl i) s w E
 | some (j,want)=>S2 P ext ol j o (zbA fl i) s w E want ((nth ol j).bind (·.dst))
def S0 (P:pG) (ext:Xt) (ol:List Oper) (fl i:Nat) (s:Env) (w:wD) (E:Env->wD->Prop):Option Oper->Prop
 | none=>False
 | some o=>S1 P ext ol fl i s w E o o.guard
theorem zEp:zgl P ext ol fl i s w E=S0 P ext ol fl i s w E (nth ol i):=by
 unfold zgl S0;cases h:nth ol i with
 | none=>rfl
 | some o=>
   simp only [S1];cases hg:o.guard with
   | none=>rfl
   | some q=>
     obtain ⟨j,_⟩:=q;simp only [S2];cases hd:(nth ol j).bind (·.dst) with
     | none=>rfl
     | some d=>
       simp only;cases h2:(nth ol j).bind (·.guard) with
       | none=>simp only [S3,zhm,BRq,zEm]
       | some q=>simp only [S3,zhm,BRq,zEm]
def Ef (w w':wD):Option (Nat->Prop)->Prop
 | none=>Ext w w'
 | some X=>ExtX X w w'
def zGa {g0:Bool}:opF P ext o g0 s w E=opK P ext o (ev s) w (λv w'=>if g0=true then Ef w w' ext.X/\E (put s o.dst v) w' else E (put s o.dst v) w'):=by
 unfold opF;congr 1;funext v w';rw [zhm];cases hx:ext.X<;>rfl
def Rq (P:pG) (m:Sem vL) (w:wD) (K:vL->Prop):Option (Nat->Prop)->Prop
 | none=>RD P m w K
 | some X=>RDX P X m w K
variable {dst:Option Nat} {ty ty2:TypeId} {pos:String} {af:Array Edge} {gu:Option (Nat×Bool)} {aa:Array Operand} {ts:Array TypeId} {ps:Array (Nat×Operand)} {f:FuncId}
def zyg:opK P ext ⟨dst,.move x,ty,pos,af,gu⟩ ρ w J=J (ρ x) w:=Eq.trans rfl rfl
def zqY:opK P ext ⟨dst,.assign x,ty,pos,af,gu⟩ ρ w J=J (ρ x) w:=Eq.trans rfl rfl
def zyh:opK P ext ⟨dst,.pick x y z,ty,pos,af,gu⟩ ρ w J=BRq (ρ x) (J (ρ y) w) (J (ρ z) w):=Eq.trans rfl rfl
def zCW:opK P ext ⟨dst,.nilCheck x,ty,pos,af,gu⟩ ρ w J=NIL (ρ x) (J (ρ x) w):=Eq.trans rfl rfl
def zup:opK P ext ⟨dst,.alloc t,ty,pos,af,gu⟩ ρ w J=OP P (Instr.alloc t true (.tuple #[])) w J:=Eq.trans rfl rfl
def zCX:opK P ext ⟨dst,.box t x,ty,pos,af,gu⟩ ρ w J=OP P (Instr.box t (ρ x)) w J:=Eq.trans rfl rfl
def zqZ:opK P ext ⟨dst,.buildSlice t n ps,ty,pos,af,gu⟩ ρ w J=OP P (Instr.buildSlice t n (prs ρ ps.toList).toArray) w J:=Eq.trans rfl rfl
def zuq:opK P ext ⟨dst,.store t x y,ty,pos,af,gu⟩ ρ w J=OPU P (Instr.storeAt t (ρ x) (ρ y)) w (J undef):=Eq.trans rfl rfl
def zq0:opK P ext ⟨dst,.makeSlice t x y,ty,pos,af,gu⟩ ρ w J=OP P (Instr.makeSlice t (ρ x) (ρ y)) w J:=Eq.trans rfl rfl
def zyi:opK P ext ⟨dst,.call { callee:=.value (.func f),args:=aa,argTypes:=ts },ty,pos,af,gu⟩ ρ w J=if ext.l.elem f=true then OPN P (callFunc f (aa.toList.map ρ).toArray) w J else CALL P f (aa.toList.map ρ) w J:=by unfold opK;simp only [zhm]
def zyj:opK P ext ⟨dst,.call { callee:=.value (.tmp t),args:=aa,argTypes:=ts },ty,pos,af,gu⟩ ρ w J=OPN P (zlM (ρ (.tmp t)) (aa.toList.map ρ)) w J:=Eq.trans rfl rfl
def zn4:opK P ext ⟨dst,.call { callee:=.builtin .append,args:=aa,argTypes:=ts },ty,pos,af,gu⟩ ρ w J=OP P (Builtin.append_ ts ty (aa.toList.map ρ).toArray) w J:=Eq.trans rfl rfl
def zq1:opK P ext ⟨dst,.call { callee:=.builtin .clear,args:=aa,argTypes:=ts },ty,pos,af,gu⟩ ρ w J=OP P (Builtin.clear_ ts ty (aa.toList.map ρ).toArray) w J:=Eq.trans rfl rfl
def zyk:opK P ext ⟨dst,.call { callee:=.builtin .len,args:=aa,argTypes:=ts },ty,pos,af,gu⟩ ρ w J=Rq P (Builtin.len_ ts ty (aa.toList.map ρ).toArray) w (λv=>J v w) ext.X:=by unfold opK;simp only [zd9];cases hx:ext.X<;>rfl
def zyl:opK P ext ⟨dst,.call { callee:=.builtin .min,args:=aa,argTypes:=ts },ty,pos,af,gu⟩ ρ w J=Rq P (Builtin.min_ ts ty (aa.toList.map ρ).toArray) w (λv=>J v w) ext.X:=by unfold opK;simp only [zd9];cases hx:ext.X<;>rfl
def zym:opK P ext ⟨dst,.call { callee:=.builtin .max,args:=aa,argTypes:=ts },ty,pos,af,gu⟩ ρ w J=Rq P (Builtin.max_ ts ty (aa.toList.map ρ).toArray) w (λv=>J v w) ext.X:=by unfold opK;simp only [zd9];cases hx:ext.X<;>rfl
def zur:opK P ext ⟨dst,.build t ps,ty,pos,af,gu⟩ ρ w J=Rq P (Instr.build t (prs ρ ps.toList).toArray) w (λv=>J v w) ext.X:=by unfold opK;simp only [zd9];cases hx:ext.X<;>rfl
def zyn:opK P ext ⟨dst,.load t x,ty,pos,af,gu⟩ ρ w J=Rq P (Instr.loadAt t (ρ x)) w (λv=>J v w) ext.X:=by unfold opK;simp only [zd9];cases hx:ext.X<;>rfl
def zCY {bo:BinOp}:opK P ext ⟨dst,.binOp bo t x y ty2,ty,pos,af,gu⟩ ρ w J=Rq P (bin bo t (isC x) (isC y) (ρ x) (ρ y)) w (λv=>J v w) ext.X:=by unfold opK;simp only [zd9];cases hx:ext.X<;>rfl
def zGb {uo:UnOp}:opK P ext ⟨dst,.unOp uo t x,ty,pos,af,gu⟩ ρ w J=Rq P (Op.unary uo (ρ x)) w (λv=>J v w) ext.X:=by unfold opK;simp only [zd9];cases hx:ext.X<;>rfl
def zyo:opK P ext ⟨dst,.convert n t x,ty,pos,af,gu⟩ ρ w J=Rq P (convert n t (ρ x)) w (λv=>J v w) ext.X:=by unfold opK;simp only [zd9];cases hx:ext.X<;>rfl
def zyp {fq:Fn} {g0:Array Operand}:opK P ext ⟨dst,.makeFunc fq aa g0,ty,pos,af,gu⟩ ρ w J=Rq P (Instr.makeFunc fq (aa.toList.map ρ).toArray (g0.toList.map ρ).toArray) w (λv=>J v w) ext.X:=by unfold opK;simp only [zd9];cases hx:ext.X<;>rfl
def zGc {lo hi mx:Option Operand}:opK P ext ⟨dst,.slice t x lo hi mx,ty,pos,af,gu⟩ ρ w J=Rq P (Instr.sliceAt t (ρ x) (lo.map ρ) (hi.map ρ) (mx.map ρ)) w (λv=>J v w) ext.X:=by unfold opK;simp only [zd9];cases hx:ext.X<;>rfl
def zGd:opK P ext ⟨dst,.fieldAddr t x i,ty,pos,af,gu⟩ ρ w J=Rq P (Instr.fieldAt t (ρ x) i) w (λv=>J v w) ext.X:=by unfold opK;simp only [zd9];cases hx:ext.X<;>rfl
def zGe:opK P ext ⟨dst,.indexAddr t x y,ty,pos,af,gu⟩ ρ w J=Rq P (Instr.indexAt t (ρ x) (ρ y)) w (λv=>J v w) ext.X:=by unfold opK;simp only [zd9];cases hx:ext.X<;>rfl
def zGf:opK P ext ⟨dst,.index t x y,ty,pos,af,gu⟩ ρ w J=Rq P (Instr.index t (ρ x) (ρ y)) w (λv=>J v w) ext.X:=by unfold opK;simp only [zd9];cases hx:ext.X<;>rfl
def zCZ:opK P ext ⟨dst,.extract x i,ty,pos,af,gu⟩ ρ w J=Rq P (Instr.extract (ρ x) i) w (λv=>J v w) ext.X:=by unfold opK;simp only [zd9];cases hx:ext.X<;>rfl
@[congr] theorem zG0 {q q':List Nat} (h:q=q'):zfm P ext ol fl E q s w=zfm P ext ol fl E q' s w:=by rw [h]
@[congr] theorem zHb {k:List vL->Prop} {q q':List ResultVar} (h:q=q'):zsP P s w q k=zsP P s w q' k:=by rw [h]
@[congr] theorem zHX {q q':Option (Nat×List Nat)} (h:q=q'):Jn P g a b s w K q=Jn P g a b s w K q':=by rw [h]
@[congr] theorem zHY {q q':Option (Nat×List Nat)} (h:q=q'):Lp P g a s w K q=Lp P g a s w K q':=by rw [h]
@[congr] theorem zHZ {q q':Option Nat} (h:q=q'):R1 P g id ol s w E q=R1 P g id ol s w E q':=by rw [h]
@[congr] theorem zH0 {q q':Option (Nat×Nat)} (h:q=q'):R2 P g id ol s w E q=R2 P g id ol s w E q':=by rw [h]
@[congr] theorem zH1 {q q':Option (List Nat×Nat)} (h:q=q'):R3 P g id ol s w E q=R3 P g id ol s w E q':=by rw [h]
@[congr] theorem zH2 {q q':Option Oper} (h:q=q'):S0 P ext ol fl i s w E q=S0 P ext ol fl i s w E q':=by rw [h]
@[congr] theorem zH3 {q q':Option (Nat×Bool)} (h:q=q'):S1 P ext ol fl i s w E o q=S1 P ext ol fl i s w E o q':=by rw [h]
@[congr] theorem zH4 {j:Nat} {flag want:Bool} {q q':Option Nat} (h:q=q'):S2 P ext ol j o flag s w E want q=S2 P ext ol j o flag s w E want q':=by rw [h]
@[congr] theorem zH5 {flag want:Bool} {q q':Option (Option (Nat×Bool))} (h:q=q'):S3 P ext o flag s w E d want q=S3 P ext o flag s w E d want q':=by rw [h]
@[congr] theorem zH6 {m:Sem vL} {k:vL->Prop} {q q':Option (Nat->Prop)} (h:q=q'):Rq P m w k q=Rq P m w k q':=by rw [h]
@[congr] theorem zH7 {q q':Option Nat} (h:q=q'):FR q a=FR q' a:=by rw [h]
@[congr] theorem zHG {α:Type} {l:List α} {q q':Nat} (h:q=q'):nth l q=nth l q':=by rw [h]
theorem zC0 {L:List Nat}:Jn P g a b s w K (some (m,L))=JOIN L (λJ=>vc P g a s w (zlh K λs' w'=>J (L.map s') w')) (λu w'=>vc P g b (mix m s u) w' K):=Eq.trans rfl rfl
def zC1:Jn P g a b s w K none=vc P g a s w (zlh K λs' w'=>vc P g b s' w' K):=Eq.trans rfl rfl
def zC2 {L:List Nat}:Lp P g a s w K (some (m,L))=LOOPI L (L.map s) w λu w' next=>vc P g a (mix m s u) w' (zlh K λs' w''=>next (L.map s') w''):=Eq.trans rfl rfl
def zC3:R1 P g id ol s w E (some m)=zAT P ⟨g.ext,none⟩ ol m s w E:=Eq.trans rfl rfl
def zC4:R1 P g id ol s w E none=R2 P g id ol s w E (find g.pars id):=Eq.trans rfl rfl
def zC5:R2 P g id ol s w E (some (m,n))=zGY P ⟨g.ext,none⟩ ol m n s w E:=Eq.trans rfl rfl
def zC6:R2 P g id ol s w E none=R3 P g id ol s w E (find g.draws id):=Eq.trans rfl rfl
def zC7:R3 P g id ol s w E (some (l,fl))=if g.xs.elem id=true then XR (λX=>zfm P ⟨g.ext,some X⟩ ol fl E l s w) else zfm P ⟨g.ext,none⟩ ol fl E l s w:=Eq.trans rfl rfl
def zC8:S0 P ext ol fl i s w E (some o)=S1 P ext ol fl i s w E o o.guard:=Eq.trans rfl rfl
def zC9:S1 P ext ol fl i s w E o none=opF P ext o (zbA fl i) s w E:=Eq.trans rfl rfl
def zDa {j:Nat} {want:Bool}:S1 P ext ol fl i s w E o (some (j,want))=S2 P ext ol j o (zbA fl i) s w E want ((nth ol j).bind (·.dst)):=Eq.trans rfl rfl
def zGg {j:Nat} {flag want:Bool}:S2 P ext ol j o flag s w E want (some d)=S3 P ext o flag s w E d want (match (nth ol j).bind (·.guard) with | none=>none | some q=>some (some q)):=Eq.trans rfl rfl
def zDb {flag want:Bool}:S3 P ext o flag s w E d want none=BRq (s d)
         (if want=true then opF P ext o flag (upd s d (.bool true)) w E else E (put (upd s d (.bool true)) o.dst undef) w)
         (if want=true then E (put (upd s d (.bool false)) o.dst undef) w else opF P ext o flag (upd s d (.bool false)) w E):=Eq.trans rfl rfl
def zDc {flag want:Bool} {q:Nat×Bool}:S3 P ext o flag s w E d want (some (some q))=zEm (s d)
         (if want=true then opF P ext o flag (upd s d (.bool true)) w E else E (put (upd s d (.bool true)) o.dst undef) w)
         (if want=true then E (put (upd s d (.bool false)) o.dst undef) w else opF P ext o flag (upd s d (.bool false)) w E)
         (E (put (upd s d undef) o.dst undef) w):=Eq.trans rfl rfl
def zDd {w':wD}:Ef w w' none=Ext w w':=Eq.trans rfl rfl
def zDe {w':wD} {X:Nat->Prop}:Ef w w' (some X)=ExtX X w w':=Eq.trans rfl rfl
def zDf {q:Sem vL} {k:vL->Prop}:Rq P q w k none=RD P q w k:=Eq.trans rfl rfl
def zDg {q:Sem vL} {k:vL->Prop} {X:Nat->Prop}:Rq P q w k (some X)=RDX P X q w k:=Eq.trans rfl rfl
def zDh:FR (some i) a=some i:=Eq.trans rfl rfl
def zDi:FR none a=zaH a:=Eq.trans rfl rfl
def zGh {fn:Func} {c:Code} {rs:List ResultVar} {aa:List vL} {R:vL->wD->Prop} (h:fn.body=some c) (h2:fn.results=rs.toArray):vcF P g fn aa w R=vc P g c (zD5 aa) w (zFU P rs R):=by unfold vcF;rw [h,h2]
end
end Go.Sh
namespace Go.Proofs.YtkgiigmcbgifdaaGreat
open Go Go.Sh Go.Proofs
open Rep (rep)
variable {K:vL->Prop} {P:pG} {n:Nat} {w:wD}
def extL:List Nat:=[0,1,283,284,285,286,287,288,289,290,291,292,293,294,295,296,297,298]
set_option maxRecDepth 100000 in
theorem zGi:((List.range 299).all λf=>extL.elem f || zea Tryz.prog f)=true:=by kernel_rfl
def ent:∀ f,f<299->extL.elem f=false->zea Tryz.prog f=true:=λf hf hx=>by
 have:=qaM.1 zGi f (qaG.2 hf);rw [hx,qde] at this;exact this
def mixed:Tryz.prog.follows .mixedOrders=true:=by kernel_rfl
abbrev VW:=vL->wD->Prop
noncomputable abbrev tp:pG:=Tryz.prog
def zbv {u:Nat->vL} {a:Nat} {x:vL} (h:[a].map u=[x]):u a=x:=by simpa using h
def zcZ {u:Nat->vL} {a b:Nat} {x y:vL} (h:[a,b].map u=[x,y]):u a=x/\u b=y:=by simpa using h
def zFG {u:Nat->vL} {a b c:Nat} {x y z:vL} (h:[a,b,c].map u=[x,y,z]):u a=x/\u b=y/\u c=z:=by simpa using h
def zau {t:TypeId} {x y:Operand} (k:K (.int .i64 ((n+1:Nat):Int))) (h:n<9223372036854775807:=by omega):RD P (bin .add t x y (.int .i64 (n:Int)) (.int .i64 1)) w K:=zFW h k
def kf (j l:List (Nat×Nat×List Nat)) (d:List (Nat×List Nat×Nat)):Cfg:=⟨extL,j,l,d,[],[],[]⟩
set_option maxRecDepth 100000 in
theorem co {g:Cfg} {f:FuncId} {fn:Func} {args:List vL} {w:wD} {R:VW} {c:Code} {rs:List ResultVar} {F:(VW)->Prop} (hf:tp.funcs[f]?=some fn) (h:F R) (hb:fn.body=some c:=by rfl) (hr:fn.results=rs.toArray:=by rfl)
    (hl:args.length.ble fn.ntmps=true:=by kernel_rfl) (hok:okF g 299 fn=true:=by kernel_rfl) (e:∀ R:VW,vc tp g c (zD5 args) w (zFU tp rs R)=F R:=by (intro R;simp (config := { maxSteps := 10000000 }) only [↓zEi,↓zF5,↓zEj,↓zF6,↓zF9,↓zBa,↓zEk,↓zEl,↓zF7,↓zCI,↓zCJ,↓zCK,↓zCL,↓zCM,↓zCN,↓zCO,↓zuk,↓zul,↓zum,↓zun,↓zuo,↓zCP,↓zCQ,↓zCR,↓zx1,↓zx2,↓zx3,↓zx4,↓zx5,↓zx6,↓zx7,↓zx8,↓zCS,↓zCT,↓zCU,↓zx9,↓zya,↓zyb,↓zyc,↓zyd,↓zEo,↓zCV,↓zye,↓zyf,↓zEp,↓zGa,↓zhm,↓zF3,↓zF4,↓zyg,↓zqY,↓zyh,↓zCW,↓zup,↓zCX,↓zqZ,↓zuq,↓zq0,↓zyi,↓zyj,↓zn4,↓zq1,↓zyk,↓zyl,↓zym,↓zur,↓zyn,↓zCY,↓zGb,↓zyo,↓zyp,↓zGc,↓zGd,↓zGe,↓zGf,↓zCZ,↓zC0,↓zC1,↓zC2,↓zC3,↓zC4,↓zC5,↓zC6,↓zC7,↓zC8,↓zC9,↓zDa,↓zGg,↓zDb,↓zDc,↓zDd,↓zDe,↓zDf,↓zDg,↓zDh,↓zDi,↓zCF,↓zCG,↓zxY,↓zxZ,↓zCH,↓zx0,zCI,zCJ,zCK,zCL,zCM,zCN,zCO,zuk,zul,zum,zun,zuo,zCP,zCQ,zCR,zx1,zx2,zx3,zx4,zx5,zx6,zx7,zx8,zCS,zCT,zCU,zx9,zya,zyb,zyc,zyd,zCV,zye,zyf,zyg,zqY,zyh,zCW,zup,zCX,zqZ,zuq,zq0,zyi,zyj,zn4,zq1,zyk,zyl,zym,zur,zyn,zCY,zGb,zyo,zyp,zGc,zGd,zGe,zGf,zCZ,zC0,zC1,zC2,zC3,zC4,zC5,zC6,zC7,zC8,zC9,zDa,zGg,zDb,zDc,zDd,zDe,zDf,zDg,zDh,zDi,zCF,zCG,zxY,zxZ,zCH,zx0,zF8,zEn,zuj,zs4,zA8,zA9,Nat.reduceEqDiff,Nat.reduceShiftRight,Nat.reduceMod,Option.bind,Option.map,qbI,qca,List.range,List.range.loop,List.size_toArray,qak,qaC,Nat.reduceAdd,qa7,kf,extL,zGY,zAT,zis,zo5,onL,onD,zD6,zqE,znC,zi8,zgH,zk0,zgm,List.take,List.drop,Region.binds,zfA,prs,isC,↓reduceIte,qaq,false_or,or_true,true_or,qa4,reduceCtorEq];exact rfl)) (hg:g.ext=extL:=by rfl):CALL tp f args w R:=
  zEc (hg▸ent) mixed hf (qbC hl) hok (by rw [zGh hb hr,e R];exact h)
variable {K:vL->Prop} {P:pG} {W0 w w0:wD} {a:Int} {k n:Nat} {s:DState} {v v0:vL}
def zBb:tyI tp 3=some (1,8,false):=by kernel_rfl
def zGj:(tp.info? 3).map (λi=>(i.zero.map (·.cells.size)))=some (some 1):=by kernel_rfl
def zv4:tp.underlying 25=some (.slice 3):=by kernel_rfl
def cnt (k:Int) (n:Nat):List Int:=(List.range n).map λi:Nat=>k+(i:Int)
def zus {l:List Int} (h:Is w0 v l) (hx:Ext w0 w) (hn:l.length<=1073741824) :
   CALL tp 227 [v] w λr w'=>Ext w w'/\Own w.heap.size w' r l:=by
 refine co (g:=kf [] [] []) Tryz.func227 ?_;obtain ⟨_,_,_,_,rfl,_,_,_,h4⟩:=zcE h;refine zhl zv4<|zbX (λg0=>?_) (λ_=>?_)
 . have:l=[]:=by
     rcases h4 with h4 | ⟨_,_,ha,_⟩
     . exact h4
     subst ha;simp at g0
   subst this;exact ⟨xrf w,ziz rfl⟩
 refine zjg (α:=Int) zv4 zBb λ_ _ g1 g2=>zpe zv4 zBb zGj g2 h (hx.t g1) g1.size oo λ_ _ g3 g4=>⟨g1.t g3,g4.own⟩
def ty2:tyI tp 2=some (1,8,false):=by kernel_rfl
def u2:tp.underlying 2=some (TypeDesc.int IntKind.i64):=by kernel_rfl
def z2:zbZ tp 2=true:=by kernel_rfl
def ty3:tyI tp 3=some (1,8,false):=by kernel_rfl
def u3:tp.underlying 3=some (TypeDesc.int IntKind.i64):=by kernel_rfl
def z3:zbZ tp 3=true:=by kernel_rfl
def zc3:(tp.info? 3).map (λi=>(i.zero.map (·.cells.size)))=some (some 1):=by kernel_rfl
def ty4:tyI tp 4=some (1,1,false):=by kernel_rfl
def u4:tp.underlying 4=some TypeDesc.bool:=by kernel_rfl
def z4:zbZ tp 4=true:=by kernel_rfl
def ty5:tyI tp 5=some (1,1,false):=by kernel_rfl
def u5:tp.underlying 5=some (TypeDesc.int IntKind.u8):=by kernel_rfl
def z5:zbZ tp 5=true:=by kernel_rfl
def u6:tp.underlying 6=some (TypeDesc.int IntKind.u8):=by kernel_rfl
def ty9:tyI tp 9=some (1,16,false):=by kernel_rfl
def u9:tp.underlying 9=some TypeDesc.string:=by kernel_rfl
def z9:zbZ tp 9=true:=by kernel_rfl
def zc9:(tp.info? 9).map (λi=>(i.zero.map (·.cells.size)))=some (some 1):=by kernel_rfl
def u10:tp.underlying 10=some TypeDesc.string:=by kernel_rfl
def u11:tp.underlying 11=some TypeDesc.string:=by kernel_rfl
def zHH:tyI tp 22=some (1,24,false):=by kernel_rfl
def u22:tp.underlying 22=some (TypeDesc.slice 5):=by kernel_rfl
def z22:zbZ tp 22=true:=by kernel_rfl
def zdt:tyI tp 24=some (1,24,false):=by kernel_rfl
def u24:tp.underlying 24=some (TypeDesc.slice 9):=by kernel_rfl
def z24:zbZ tp 24=true:=by kernel_rfl
def zaS:tyI tp 25=some (1,24,false):=by kernel_rfl
def u25:tp.underlying 25=some (TypeDesc.slice 3):=by kernel_rfl
def z25:zbZ tp 25=true:=by kernel_rfl
def zyq:(tp.info? 25).map (λi=>(i.zero.map (·.cells.size)))=some (some 1):=by kernel_rfl
def zdD:tyI tp 26=some (1,24,false):=by kernel_rfl
def u26:tp.underlying 26=some (TypeDesc.slice 151):=by kernel_rfl
def zbY:tyI tp 28=some (5,120,true):=by kernel_rfl
def zxm:zcu tp 28=some [.slice none 0 0,.slice none 0 0,.slice none 0 0,.slice none 0 0,.slice none 0 0]:=by kernel_rfl
def zee:zdf tp 28 0=some 0:=by kernel_rfl
def zfk:zdf tp 28 1=some 1:=by kernel_rfl
def zdl:zdf tp 28 2=some 2:=by kernel_rfl
def zbq:zdf tp 28 3=some 3:=by kernel_rfl
def zaY:zdf tp 28 4=some 4:=by kernel_rfl
def u30:tp.underlying 30=some (TypeDesc.slice 41):=by kernel_rfl
def zeV:tyI tp 31=some (1,24,false):=by kernel_rfl
def u31:tp.underlying 31=some (TypeDesc.slice 25):=by kernel_rfl
def zdG:tyI tp 41=some (3,24,true):=by kernel_rfl
def z41:zbZ tp 41=true:=by kernel_rfl
def zAP:(tp.info? 41).map (λi=>(i.zero.map (·.cells.size)))=some (some 3):=by kernel_rfl
def zHc:zcu tp 41=some [.int .i64 0,.int .i64 0,.int .i64 0]:=by kernel_rfl
def zn5:zdf tp 41 0=some 0:=by kernel_rfl
def zlX:zdf tp 41 1=some 1:=by kernel_rfl
def zq2:zdf tp 41 2=some 2:=by kernel_rfl
def zch:tyI tp 43=some (3,72,true):=by kernel_rfl
def z43:zbZ tp 43=true:=by kernel_rfl
def zHI:(tp.info? 43).map (λi=>(i.zero.map (·.cells.size)))=some (some 3):=by kernel_rfl
def zH8:zcu tp 43=some [.slice none 0 0,.slice none 0 0,.slice none 0 0]:=by kernel_rfl
def zhc:zdf tp 43 0=some 0:=by kernel_rfl
def zdN:zdf tp 43 1=some 1:=by kernel_rfl
def zbc:zdf tp 43 2=some 2:=by kernel_rfl
def zqA:tyI tp 46=some (1,24,false):=by kernel_rfl
def u46:tp.underlying 46=some (TypeDesc.slice 43):=by kernel_rfl
def z46:zbZ tp 46=true:=by kernel_rfl
def zqB:tyI tp 68=some (1,24,false):=by kernel_rfl
def u68:tp.underlying 68=some (TypeDesc.slice 139):=by kernel_rfl
def zlY:tyI tp 70=some (3,72,true):=by kernel_rfl
def z70:zbZ tp 70=true:=by kernel_rfl
def zGk:zcu tp 70=some [.slice none 0 0,.slice none 0 0,.slice none 0 0]:=by kernel_rfl
def zn6:zdf tp 70 0=some 0:=by kernel_rfl
def zn7:zdf tp 70 1=some 1:=by kernel_rfl
def zex:zdf tp 70 2=some 2:=by kernel_rfl
def zEq:tyI tp 72=some (2,16,true):=by kernel_rfl
def zq3:zdf tp 72 0=some 0:=by kernel_rfl
def zGl:tyI tp 83=some (4,80,true):=by kernel_rfl
def zjk:zdf tp 83 0=some 0:=by kernel_rfl
def zDj:zdf tp 83 1=some 1:=by kernel_rfl
def zDk:zdf tp 83 2=some 2:=by kernel_rfl
def zDl:zdf tp 83 3=some 3:=by kernel_rfl
def u85:tp.underlying 85=some (TypeDesc.slice 88):=by kernel_rfl
def zDm:tyI tp 88=some (1,24,false):=by kernel_rfl
def u88:tp.underlying 88=some (TypeDesc.slice 91):=by kernel_rfl
def zhY:tyI tp 91=some (4,32,true):=by kernel_rfl
def z91:zbZ tp 91=true:=by kernel_rfl
def zGm:(tp.info? 91).map (λi=>(i.zero.map (·.cells.size)))=some (some 4):=by kernel_rfl
def zG1:zcu tp 91=some [.int .i64 0,.int .i64 0,.bool false,.int .i64 0]:=by kernel_rfl
def zn8:zdf tp 91 0=some 0:=by kernel_rfl
def zn9:zdf tp 91 1=some 1:=by kernel_rfl
def zut:zdf tp 91 2=some 2:=by kernel_rfl
def zuu:zdf tp 91 3=some 3:=by kernel_rfl
def u94:tp.underlying 94=some (TypeDesc.int IntKind.u64):=by kernel_rfl
def zgO:zdf tp 102 0=some 0:=by kernel_rfl
def zyr:zdf tp 102 1=some 1:=by kernel_rfl
def zys:zdf tp 102 2=some 2:=by kernel_rfl
def zyt:zdf tp 102 3=some 3:=by kernel_rfl
def zef:tyI tp 105=some (1,24,false):=by kernel_rfl
def zfU:tp.underlying 105=some (TypeDesc.slice 4):=by kernel_rfl
def zH9:zbZ tp 105=true:=by kernel_rfl
def zHd:(tp.info? 105).map (λi=>(i.zero.map (·.cells.size)))=some (some 1):=by kernel_rfl
def zbf:zdf tp 107 0=some 0:=by kernel_rfl
def zpi:zdf tp 107 1=some 5:=by kernel_rfl
def zpj:zdf tp 107 2=some 6:=by kernel_rfl
def zs5:zdf tp 107 3=some 7:=by kernel_rfl
def zlZ:zdf tp 107 4=some 8:=by kernel_rfl
def ziC:zdf tp 107 5=some 9:=by kernel_rfl
def ziD:zdf tp 107 6=some 10:=by kernel_rfl
def zoa:tp.underlying 109=some (TypeDesc.slice 170):=by kernel_rfl
def zDn:tp.underlying 111=some (TypeDesc.slice 168):=by kernel_rfl
def zyu:zdf tp 125 0=some 0:=by kernel_rfl
def zpk:zdf tp 125 1=some 1:=by kernel_rfl
def zpl:zdf tp 125 2=some 2:=by kernel_rfl
def zs6:tyI tp 130=some (1,24,false):=by kernel_rfl
def zBc:tp.underlying 130=some (TypeDesc.slice 195):=by kernel_rfl
def ziE:zdf tp 132 0=some 0:=by kernel_rfl
def zeF:zdf tp 132 1=some 1:=by kernel_rfl
def zl0:zdf tp 132 3=some 3:=by kernel_rfl
def zpm:zdf tp 132 4=some 5:=by kernel_rfl
def zd6:tyI tp 137=some (1,24,false):=by kernel_rfl
def zf9:tp.underlying 137=some (TypeDesc.slice 197):=by kernel_rfl
def zl1:tyI tp 139=some (2,40,true):=by kernel_rfl
def zHJ:zbZ tp 139=true:=by kernel_rfl
def zGn:(tp.info? 139).map (λi=>(i.zero.map (·.cells.size)))=some (some 2):=by kernel_rfl
def zpn:zdf tp 139 0=some 0:=by kernel_rfl
def zpo:zdf tp 139 1=some 1:=by kernel_rfl
def zs7:zdf tp 144 0=some 0:=by kernel_rfl
def ziF:zdf tp 144 1=some 3:=by kernel_rfl
def zd7:tyI tp 147=some (1,24,false):=by kernel_rfl
def zio:tp.underlying 147=some (TypeDesc.slice 149):=by kernel_rfl
def zbl:tyI tp 149=some (4,56,true):=by kernel_rfl
def zHe:zbZ tp 149=true:=by kernel_rfl
def zHf:(tp.info? 149).map (λi=>(i.zero.map (·.cells.size)))=some (some 4):=by kernel_rfl
def zHg:tp.underlying 149=some (TypeDesc.struct (Array.mk [Field.mk "Kind" 3 0 false "" "" 0,Field.mk "Num" 3 1 false "" "" 8,Field.mk "Name" 9 2 false "" "" 16,Field.mk "Kids" 147 3 false "" "" 32])):=by kernel_rfl
def zv5:zcu tp 149=some [.int .i64 0,.int .i64 0,.string ByteArray.empty,.slice none 0 0]:=by kernel_rfl
def zdK:zdf tp 149 0=some 0:=by kernel_rfl
def zeG:zdf tp 149 1=some 1:=by kernel_rfl
def zdX:zdf tp 149 2=some 2:=by kernel_rfl
def zbL:zdf tp 149 3=some 3:=by kernel_rfl
def zbm:tyI tp 151=some (7,80,true):=by kernel_rfl
def zIa:zbZ tp 151=true:=by kernel_rfl
def zHh:(tp.info? 151).map (λi=>(i.zero.map (·.cells.size)))=some (some 7):=by kernel_rfl
def ziG:zcu tp 151=some [.int .i64 0,.int .i64 0,.int .i64 0,.int .i64 0,.string ByteArray.empty,.slice none 0 0,.int .i64 0]:=by kernel_rfl
def za8:zdf tp 151 0=some 0:=by kernel_rfl
def zaZ:zdf tp 151 1=some 1:=by kernel_rfl
def zdL:zdf tp 151 2=some 2:=by kernel_rfl
def zdg:zdf tp 151 3=some 6:=by kernel_rfl
def zq4:tyI tp 168=some (3,24,true):=by kernel_rfl
def zHK:zbZ tp 168=true:=by kernel_rfl
def zGo:(tp.info? 168).map (λi=>(i.zero.map (·.cells.size)))=some (some 3):=by kernel_rfl
def zHi:zcu tp 168=some [.int .i64 0,.int .i64 0,.int .i64 0]:=by kernel_rfl
def zpp:zdf tp 168 0=some 0:=by kernel_rfl
def zpq:zdf tp 168 1=some 1:=by kernel_rfl
def zyv:zdf tp 168 2=some 2:=by kernel_rfl
def zfc:tyI tp 170=some (2,16,true):=by kernel_rfl
def zHL:zbZ tp 170=true:=by kernel_rfl
def zGp:(tp.info? 170).map (λi=>(i.zero.map (·.cells.size)))=some (some 2):=by kernel_rfl
def zBd:zcu tp 170=some [.int .i64 0,.int .i64 0]:=by kernel_rfl
def zl2:zdf tp 170 0=some 0:=by kernel_rfl
def zl3:zdf tp 170 1=some 1:=by kernel_rfl
def zFH:tp.underlying 176=some (TypeDesc.slice 178):=by kernel_rfl
def zs8:tyI tp 178=some (1,8,false):=by kernel_rfl
def zFI:tp.underlying 188=some (TypeDesc.slice 105):=by kernel_rfl
def zq5:tyI tp 195=some (3,32,true):=by kernel_rfl
def zIb:zbZ tp 195=true:=by kernel_rfl
def zHj:(tp.info? 195).map (λi=>(i.zero.map (·.cells.size)))=some (some 3):=by kernel_rfl
def zyw:zdf tp 195 0=some 0:=by kernel_rfl
def zpr:zdf tp 195 1=some 1:=by kernel_rfl
def zb6:tyI tp 197=some (8,128,true):=by kernel_rfl
def zEr:zbZ tp 197=true:=by kernel_rfl
def zs9:(tp.info? 197).map (λi=>(i.zero.map (·.cells.size)))=some (some 8):=by kernel_rfl
def zv6:zcu tp 197=some [.int .i64 0,.string ByteArray.empty,.int .i64 0,.int .i64 0,.string ByteArray.empty,.slice none 0 0,.slice none 0 0,.slice none 0 0]:=by kernel_rfl
def zfd:zdf tp 197 0=some 0:=by kernel_rfl
def zdh:zdf tp 197 1=some 1:=by kernel_rfl
def zhn:zdf tp 197 2=some 2:=by kernel_rfl
def zfe:zdf tp 197 3=some 6:=by kernel_rfl
def zeg:zdf tp 197 4=some 7:=by kernel_rfl
def zFJ:tp.underlying 229=some (TypeDesc.slice 269):=by kernel_rfl
def zkf:zdf tp 238 1=some 5:=by kernel_rfl
def zgP:zdf tp 238 2=some 6:=by kernel_rfl
def zps:zdf tp 238 3=some 7:=by kernel_rfl
def zyx:tyI tp 269=some (2,16,true):=by kernel_rfl
def zIc:zbZ tp 269=true:=by kernel_rfl
def zHk:(tp.info? 269).map (λi=>(i.zero.map (·.cells.size)))=some (some 2):=by kernel_rfl
def zEs:zdf tp 269 0=some 0:=by kernel_rfl
def zta:zdf tp 269 1=some 1:=by kernel_rfl
def zEt {t:TypeId} {x y:Operand} {a b:Bool} (ht:P.underlying t=some .bool) (k:K (.bool (decide (a≠b)))):RD P (bin .neq t x y (.bool a) (.bool b)) w K:=
 zba (λw' _=>by
   have:=run_neq_bool (P:=P) w' t a b ht;cases a<;>cases b<;>simp_all [bin,eqGuard]) k
def sm {α:Type} (f:α->Nat) (l:List α):Nat:=(l.map f).sum
theorem zGq {α:Type} (f:α->Nat) {l:List α} {x:α} (h:x∈l):f x<=sm f l:=by
 unfold sm
 induction l with
 | nil=>cases h
 | cons y l ih=>
   rw [qbI,qc0];rcases qaa.1 h with rfl | h
   . omega
   have:=ih h;omega
def l01In_ok {b:Int} {c:Int}    :
   CALL tp 122 [.int .i64 a,.int .i64 b,.int .i64 c] w λr w'=>Ext w w'/\(r=.bool (decide (b<=a/\a<=c))):=by
 refine co (g:=kf [] [] []) Tryz.func122 ?_;refine zb9<|br (λc1=>?_) (λc1=>?_)
 . refine zew ?_;refine ⟨xrf w,?_⟩;simp [c1]
 refine ⟨xrf w,?_⟩;simp [c1]
def zbg (s:DState) (t:Int):Int:=if h:0<=t/\t.toNat<s.stacks.length then (s.stacks[t.toNat]'h.2).getLastD (-1) else -1
def zl4 {l:List Int} (h:l≠[]) (hi:((l.length:Int)-1).toNat<l.length):l[((l.length:Int)-1).toNat]'hi=l.getLastD (-1):=by
 have e:((l.length:Int)-1).toNat=l.length-1:=oo;simp only [e];rw [List.getLastD_eq_getLast?,List.getLast?_eq_getElem?,List.getElem?_eq_getElem oo];rfl
def zgQ {t:Int}  (h0:Is W0 v0 s) (e0:Ext W0 w)  :
   CALL tp 64 [v0,.int .i64 t] w λr w'=>Ext w w'/\(r=.int .i64 (zbg s t)):=by
 refine co (g:=kf [] [] [(3,[0,1,2,3,4,5,6,7,8,9,10,11,12,13,14],0)]) Tryz.func64 ?_;refine zax zch rfl h0 e0 λg5 y1 g0 _=>zaa zbc<|zab zeV (zaB g0) (xrf g5) λ_ h7=>?_;have g9:=zak h7;refine zae u31 h7<|zbe io ?_;refine (l01In_ok ).mono ?_;rintro _ gb ⟨y2,rfl⟩;refine zav<|br (λc1=>?_) (λc1=>?_)
 . refine ⟨(y1.t y2),?_⟩;unfold zbg;rw [dif_neg oo]
 refine zaa zbc<|zab zeV (zaB g0) y2 λ_ gc=>zaC u31 zaS gc oo oo λ_ _ gd=>zab zaS gd y2 λ_ g1=>?_;have g2:=zak g1;refine zae u25 g1<|zai<|br (λc2=>?_) (λc2=>?_)
 . refine ⟨(y1.t y2),?_⟩;unfold zbg;rw [dif_pos oo];have:s.stacks[t.toNat]'(by omega)=[]:=qan oo;rw [this];rfl
 have y3:=zag gb;refine zaa zbc<|zab zeV (zaB g0) (y2.t y3) λ_ gf=>zaC u31 zaS gf oo oo λ_ _ gg=>zab zaS gg (y2.t y3) λ_ gh=>zaa zbc<|zab zeV (zaB g0) (y2.t y3) λ_ gi=>zaC u31 zaS gi oo oo λ_ _ gj=>zab zaS gj (y2.t y3) λ_ g3=>?_;have g4:=zak g3;refine zae u25 g3<|zbe io<|zaC u25 ty3 gh oo oo λ_ _ gl=>zac ty3 gl (y2.t y3) λ_=>⟨(y1.t (y2.t y3)),?_⟩;unfold zbg;rw [dif_pos oo];rw [zl4 (λe=>by rw [e] at c2;simp at c2)]
def ziH {t:Int}  (h0:Is W0 v0 s) (e0:Ext W0 w)  :
   CALL tp 49 [v0,.int .i64 t] w λr w'=>Ext w w'/\(r=.int .i64 (zbg s t)):=by
 refine co (g:=kf [] [] [(3,[0,1,2,3,4,5,6,7,8,9,10,11,12,13,14],0)]) Tryz.func49 ?_;refine zax zch rfl h0 e0 λg0 y1 g1 _=>zaf<|br (λc1=>?_) (λc1=>?_)
 . refine ⟨y1,?_⟩;unfold zbg;rw [dif_neg oo]
 refine zaa zbc<|zab zeV (zaB g1) (xrf g0) λ_ g2=>?_;have g3:=zak g2;refine zae u31 g2<|zb9<|br (λc2=>?_) (λc2=>?_)
 . refine ⟨y1,?_⟩;unfold zbg;rw [dif_neg oo]
 refine zaa zbc<|zab zeV (zaB g1) (xrf g0) λ_ gc=>zaC u31 zaS gc oo oo λ_ _ gd=>zab zaS gd (xrf g0) λ_ g4=>?_;have g5:=zak g4;refine zae u25 g4<|zai<|br (λc3=>?_) (λc3=>?_)
 . refine ⟨y1,?_⟩;unfold zbg;rw [dif_pos oo];have:s.stacks[t.toNat]'(by omega)=[]:=qan oo;rw [this];rfl
 have y2:=zag g0;refine zaa zbc<|zab zeV (zaB g1) y2 λ_ gf=>zaC u31 zaS gf oo oo λ_ _ gg=>zab zaS gg y2 λ_ gh=>zaa zbc<|zab zeV (zaB g1) y2 λ_ gi=>zaC u31 zaS gi oo oo λ_ _ gj=>zab zaS gj y2 λ_ g9=>?_;have gb:=zak g9;refine zae u25 g9<|zbe io<|zaC u25 ty3 gh oo oo λ_ _ gl=>zac ty3 gl y2 λ_=>⟨(y1.t y2),?_⟩;unfold zbg;rw [dif_pos oo];rw [zl4 (λe=>by rw [e] at c3;simp at c3)]
def zl5:zcu tp 43=some [.slice none 0 0,.slice none 0 0,.slice none 0 0]:=by kernel_rfl
def zob (b:UInt8):Bool:=decide ((97:Int)<=(b.toNat:Int)/\(b.toNat:Int)<=122)
def zuv (b:UInt8):Bool:=decide ((48:Int)<=(b.toNat:Int)/\(b.toNat:Int)<=57)
def ziI (s:ByteArray):Bool:=decide (s.size<=12)&&(bts s).head?.any zob&&(bts s).all (λb=>zob b || zuv b)
def kw:List ByteArray:=[.mk #[97,110,100],.mk #[99,97,108,108],.mk #[101,108,115,101],.mk #[103,108,111,98,97,108,115],.mk #[105,102],.mk #[108,111,99,107],.mk #[108,111,99,107,115],
 .mk #[110,111,116],.mk #[112,114,111,99],.mk #[115,107,105,112],.mk #[115,112,97,119,110],.mk #[117,110,108,111,99,107],.mk #[119,104,105,108,101]]
def zbD (s:ByteArray):Bool:=ziI s&&!decide (s∈kw)
def zoc    :
   CALL tp 266 [.int .u8 (n:Int)] w λr w'=>Ext w w'/\(r=.bool (decide ((97:Int)<=(n:Int)/\(n:Int)<=122))):=by
 refine co (g:=kf [] [] []) Tryz.func266 ?_;refine zb9<|br (λc1=>?_) (λc1=>?_)
 . refine zew ?_;refine ⟨xrf w,?_⟩;simp [c1]
 refine ⟨xrf w,?_⟩;simp [c1]
def ztb    :
   CALL tp 267 [.int .u8 (n:Int)] w λr w'=>Ext w w'/\(r=.bool (decide ((48:Int)<=(n:Int)/\(n:Int)<=57))):=by
 refine co (g:=kf [] [] []) Tryz.func267 ?_;refine zb9<|br (λc1=>?_) (λc1=>?_)
 . refine zew ?_;refine ⟨xrf w,?_⟩;simp [c1]
 refine ⟨xrf w,?_⟩;simp [c1]
def l02Letter_ok    :
   CALL tp 213 [.int .u8 (n:Int)] w λr w'=>Ext w w'/\(r=.bool (decide ((97:Int)<=(n:Int)/\(n:Int)<=122))):=by
 refine co (g:=kf [] [] []) Tryz.func213 ?_;refine zb9<|br (λc1=>?_) (λc1=>?_)
 . refine zew ?_;refine ⟨xrf w,?_⟩;simp [c1]
 refine ⟨xrf w,?_⟩;simp [c1]
def l02Figure_ok    :
   CALL tp 216 [.int .u8 (n:Int)] w λr w'=>Ext w w'/\(r=.bool (decide ((48:Int)<=(n:Int)/\(n:Int)<=57))):=by
 refine co (g:=kf [] [] []) Tryz.func216 ?_;refine zb9<|br (λc1=>?_) (λc1=>?_)
 . refine zew ?_;refine ⟨xrf w,?_⟩;simp [c1]
 refine ⟨xrf w,?_⟩;simp [c1]
def zuw {s:ByteArray} (h:0<s.size):(bts s).head?=some ((bts s)[0]'(by rw [zbB];exact h)):=by
 rw [List.head?_eq_getElem?,List.getElem?_eq_getElem (by rw [zbB];exact h)]
def zod {s:ByteArray} (h:s.size=0):ziI s=false:=by
 have:bts s=[]:=qan (by rw [zbB];exact h);simp [ziI,this]
def zq6 {s:ByteArray} (h:12<s.size):ziI s=false:=by
 simp [ziI,Nat.not_le.2 h]
def zq7 {s:ByteArray} (h:0<s.size) (c:¬((97:Int)<=(((bts s)[0]'(by rw [zbB];exact h)).toNat:Int)/\(((bts s)[0]'(by rw [zbB];exact h)).toNat:Int)<=122)):ziI s=false:=by
 have:zob ((bts s)[0]'(by rw [zbB];exact h))=false:=by simp only [zob,c,qam]
 simp [ziI,zuw h,this]
def zyy {s:ByteArray} (h:k<s.size) (c1:¬((97:Int)<=(((bts s)[k]'(by rw [zbB];exact h)).toNat:Int)/\(((bts s)[k]'(by rw [zbB];exact h)).toNat:Int)<=122))
   (c2:¬((48:Int)<=(((bts s)[k]'(by rw [zbB];exact h)).toNat:Int)/\(((bts s)[k]'(by rw [zbB];exact h)).toNat:Int)<=57)):ziI s=false:=by
 have h1:zob ((bts s)[k]'(by rw [zbB];exact h))=false:=by simp only [zob,c1,qam]
 have h2:zuv ((bts s)[k]'(by rw [zbB];exact h))=false:=by simp only [zuv,c2,qam]
 have:(bts s).all (λb=>zob b || zuv b)=false:=by
   rw [List.all_eq_false];exact ⟨_,qac (by rw [zbB];exact h),by simp [h1,h2]⟩
 simp [ziI,this]
def zjl {s:ByteArray} (h:k<s.size) (hi:∀ b∈(bts s).take k,(zob b || zuv b)=true) (c:zob ((bts s)[k]'(by rw [zbB];exact h))=true\/zuv ((bts s)[k]'(by rw [zbB];exact h))=true) :
   ∀ b∈(bts s).take (k+1),(zob b || zuv b)=true:=by
 rw [tk (by rw [zbB];exact h)];intro b hb;rcases qae.1 hb with hb | hb
 . exact hi b hb
 simp only [qaa,qad,qaq] at hb;subst hb;simpa using c
def zux {s:ByteArray} (h0:0<s.size) (h1:s.size<=12) (c:(97:Int)<=(((bts s)[0]'(by rw [zbB];exact h0)).toNat:Int)/\(((bts s)[0]'(by rw [zbB];exact h0)).toNat:Int)<=122) (hk:s.size<=k)
   (hi:∀ b∈(bts s).take k,(zob b || zuv b)=true):ziI s=true:=by
 rw [qaf (by rw [zbB];exact hk)] at hi;have e1:zob ((bts s)[0]'(by rw [zbB];exact h0))=true:=by simp only [zob,c,and_self,qa6]
 have e2:(bts s).all (λb=>zob b || zuv b)=true:=qaM.2 hi;simp [ziI,zuw h0,e1,e2,h1]
def l02Word_ok {s:ByteArray}    :
   CALL tp 215 [.string s] w λr w'=>Ext w w'/\(r=.bool (ziI s)):=by
 refine co (g:=kf [] [(4,68719214604,[3])] []) Tryz.func215 ?_;refine zfB u9<|zai<|br (λc1=>?_) (λc1=>?_)
 . refine ⟨xrf w,?_⟩;rw [zod oo]
 refine zfB u9<|zcO<|br (λc2=>?_) (λc2=>?_)
 . refine ⟨xrf w,?_⟩;rw [zq6 oo]
 refine zed (i:=0) u9 oo ?_;refine (l02Letter_ok ).mono ?_;rintro _ g0 ⟨y1,rfl⟩;refine zav<|br (λc3=>?_) (λc3=>?_)
 . refine ⟨y1,?_⟩;rw [zq7 oo c3]
 refine zap (s.size) (λk us w'=>us=[.int .i64 (k:Int)]/\Ext g0 w'/\(∀ b∈(bts s).take k,(zob b || zuv b)=true)) (0) oo ⟨sS,xrf g0,sS⟩ ?_;rintro k m4 _ _ _ ⟨hu,y2,C⟩;try replace hu:=zbv hu
 try rw [hu]
 try clear hu
 refine zfB u9<|zaf<|br (λc4=>?_) (λc4=>?_)
 . refine zed u9 oo ?_;refine (l02Letter_ok ).mono ?_;rintro _ _ ⟨y3,rfl⟩;refine zav<|br (λc5=>?_) (λc5=>?_)
   . refine zed u9 oo ?_;refine (l02Figure_ok ).mono ?_;rintro _ _ ⟨y4,rfl⟩;refine zav<|br (λc6=>?_) (λc6=>?_)
     . refine ⟨(y1.t (y2.t (y3.t y4))),?_⟩;rw [zyy oo c5 c6]
     refine zau<|⟨m4-1,oo,k+1,oo,sS,(y2.t (y3.t y4)),?_⟩;exact zjl oo C (.inr (by simp only [zuv,qai.1 c6,and_self,qa6]))
   refine zau<|⟨m4-1,oo,k+1,oo,sS,(y2.t y3),?_⟩;exact zjl oo C (.inl (by simp only [zob,qai.1 c5,and_self,qa6]))
 refine ⟨(y1.t y2),?_⟩;rw [zux oo oo (qai.1 c3) oo C]
def specIsName_ok {s:ByteArray}    :
   CALL tp 206 [.string s] w λr w'=>Ext w w'/\(r=.bool (zbD s)):=by
 refine co (g:=kf [] [] []) Tryz.func206 ?_;refine zaQ<|br (λc1=>?_) (λc1=>?_)
 . refine ⟨xrf w,?_⟩;have hm:s∈kw:=by simp [kw, *]
   simp [zbD,hm]
 refine zaQ<|br (λc2=>?_) (λc2=>?_)
 . refine ⟨xrf w,?_⟩;have hm:s∈kw:=by simp [kw, *]
   simp [zbD,hm]
 refine zaQ<|br (λc3=>?_) (λc3=>?_)
 . refine ⟨xrf w,?_⟩;have hm:s∈kw:=by simp [kw, *]
   simp [zbD,hm]
 refine zaQ<|br (λc4=>?_) (λc4=>?_)
 . refine ⟨xrf w,?_⟩;have hm:s∈kw:=by simp [kw, *]
   simp [zbD,hm]
 refine zaQ<|br (λc5=>?_) (λc5=>?_)
 . refine ⟨xrf w,?_⟩;have hm:s∈kw:=by simp [kw, *]
   simp [zbD,hm]
 refine zaQ<|br (λc6=>?_) (λc6=>?_)
 . refine ⟨xrf w,?_⟩;have hm:s∈kw:=by simp [kw, *]
   simp [zbD,hm]
 refine zaQ<|br (λc7=>?_) (λc7=>?_)
 . refine ⟨xrf w,?_⟩;have hm:s∈kw:=by simp [kw, *]
   simp [zbD,hm]
 refine zaQ<|br (λc8=>?_) (λc8=>?_)
 . refine ⟨xrf w,?_⟩;have hm:s∈kw:=by simp [kw, *]
   simp [zbD,hm]
 refine zaQ<|br (λc9=>?_) (λc9=>?_)
 . refine ⟨xrf w,?_⟩;have hm:s∈kw:=by simp [kw, *]
   simp [zbD,hm]
 refine zaQ<|br (λg0=>?_) (λg0=>?_)
 . refine ⟨xrf w,?_⟩;have hm:s∈kw:=by simp [kw, *]
   simp [zbD,hm]
 refine zaQ<|br (λg1=>?_) (λg1=>?_)
 . refine ⟨xrf w,?_⟩;have hm:s∈kw:=by simp [kw, *]
   simp [zbD,hm]
 refine zaQ<|br (λg2=>?_) (λg2=>?_)
 . refine ⟨xrf w,?_⟩;have hm:s∈kw:=by simp [kw, *]
   simp [zbD,hm]
 refine zaQ<|br (λg3=>?_) (λg3=>?_)
 . refine ⟨xrf w,?_⟩;have hm:s∈kw:=by simp [kw, *]
   simp [zbD,hm]
 refine (l02Word_ok ).mono ?_;rintro _ _ ⟨y1,rfl⟩;refine ⟨y1,?_⟩;have hm:s∉kw:=by simp [kw, *]
 simp [zbD,hm]
def zjm {s:ByteArray}    :
   CALL tp 225 [.string s] w λr w'=>Ext w w'/\(r=.bool (zbD s)):=by
 refine co (g:=kf [] [(4,68719214604,[3])] []) Tryz.func225 ?_;refine zfB u9<|zaf<|br (λc1=>?_) (λc1=>?_)
 . refine ⟨xrf w,?_⟩;simp [zbD,zod (s:=s) oo]
 refine zfB u9<|zcO<|br (λc2=>?_) (λc2=>?_)
 . refine ⟨xrf w,?_⟩;simp [zbD,zq6 (s:=s) oo]
 refine zed (i:=0) u9 oo ?_;refine (zoc ).mono ?_;rintro _ g0 ⟨y1,rfl⟩;refine zav<|br (λc3=>?_) (λc3=>?_)
 . refine ⟨y1,?_⟩;simp [zbD,zq7 (s:=s) oo c3]
 refine zap (s.size) (λk us w'=>us=[.int .i64 (k:Int)]/\Ext g0 w'/\(∀ b∈(bts s).take k,(zob b || zuv b)=true)) (0) oo ⟨sS,xrf g0,sS⟩ ?_;rintro k m4 _ _ _ ⟨hu,y2,C⟩;try replace hu:=zbv hu
 try rw [hu]
 try clear hu
 refine zfB u9<|zaf<|br (λc4=>?_) (λc4=>?_)
 . refine zed u9 oo ?_;refine (zoc ).mono ?_;rintro _ _ ⟨y3,rfl⟩;refine zav<|br (λc5=>?_) (λc5=>?_)
   . refine zed u9 oo ?_;refine (ztb ).mono ?_;rintro _ _ ⟨y4,rfl⟩;refine zav<|br (λc6=>?_) (λc6=>?_)
     . refine ⟨(y1.t (y2.t (y3.t y4))),?_⟩;simp [zbD,zyy (s:=s) oo c5 c6]
     refine zau<|⟨m4-1,oo,k+1,oo,sS,(y2.t (y3.t y4)),?_⟩;exact zjl oo C (.inr (by simp only [zuv,qai.1 c6,and_self,qa6]))
   refine zau<|⟨m4-1,oo,k+1,oo,sS,(y2.t y3),?_⟩;exact zjl oo C (.inl (by simp only [zob,qai.1 c5,and_self,qa6]))
 refine zaQ<|br (λc7=>?_) (λc7=>?_)
 . refine ⟨(y1.t y2),?_⟩;have hm:s∈kw:=by simp only [kw,qaa, *,true_or,or_true]
   simp [zbD,hm]
 refine zaQ<|br (λc8=>?_) (λc8=>?_)
 . refine ⟨(y1.t y2),?_⟩;have hm:s∈kw:=by simp only [kw,qaa, *,true_or,or_true]
   simp [zbD,hm]
 refine zaQ<|br (λc9=>?_) (λc9=>?_)
 . refine ⟨(y1.t y2),?_⟩;have hm:s∈kw:=by simp only [kw,qaa, *,true_or,or_true]
   simp [zbD,hm]
 refine zaQ<|br (λg1=>?_) (λg1=>?_)
 . refine ⟨(y1.t y2),?_⟩;have hm:s∈kw:=by simp only [kw,qaa, *,true_or,or_true]
   simp [zbD,hm]
 refine zaQ<|br (λg2=>?_) (λg2=>?_)
 . refine ⟨(y1.t y2),?_⟩;have hm:s∈kw:=by simp only [kw,qaa, *,true_or,or_true]
   simp [zbD,hm]
 refine zaQ<|br (λg3=>?_) (λg3=>?_)
 . refine ⟨(y1.t y2),?_⟩;have hm:s∈kw:=by simp only [kw,qaa, *,true_or,or_true]
   simp [zbD,hm]
 refine zaQ<|br (λg4=>?_) (λg4=>?_)
 . refine ⟨(y1.t y2),?_⟩;have hm:s∈kw:=by simp only [kw,qaa, *,true_or,or_true]
   simp [zbD,hm]
 refine zaQ<|br (λg5=>?_) (λg5=>?_)
 . refine ⟨(y1.t y2),?_⟩;have hm:s∈kw:=by simp only [kw,qaa, *,true_or,or_true]
   simp [zbD,hm]
 refine zaQ<|br (λg9=>?_) (λg9=>?_)
 . refine ⟨(y1.t y2),?_⟩;have hm:s∈kw:=by simp only [kw,qaa, *,true_or,or_true]
   simp [zbD,hm]
 refine zaQ<|br (λgb=>?_) (λgb=>?_)
 . refine ⟨(y1.t y2),?_⟩;have hm:s∈kw:=by simp only [kw,qaa, *,true_or,or_true]
   simp [zbD,hm]
 refine zaQ<|br (λgc=>?_) (λgc=>?_)
 . refine ⟨(y1.t y2),?_⟩;have hm:s∈kw:=by simp only [kw,qaa, *,true_or,or_true]
   simp [zbD,hm]
 refine zaQ<|br (λgd=>?_) (λgd=>?_)
 . refine ⟨(y1.t y2),?_⟩;have hm:s∈kw:=by simp only [kw,qaa, *,true_or,or_true]
   simp [zbD,hm]
 refine zaQ<|br (λgf=>?_) (λgf=>?_)
 . refine ⟨(y1.t y2),?_⟩;have hm:s∈kw:=by simp only [kw,qaa, *,true_or,or_true]
   simp [zbD,hm]
 refine ⟨(y1.t y2),?_⟩;have hm:s∉kw:=by simp only [kw,qaa,qad,qaq, *,not_false_eq_true]
 simp [zbD,hm,zux oo oo (qai.1 c3) oo C]
end Go.Proofs.YtkgiigmcbgifdaaGreat
namespace Go.Sh
open Go.RowKit (Below)
open Rep (rep)
theorem zln (r:Nat):∀ (l:List vL) (k:Nat) (cs:Array vL),
   ((l.zipIdx k).foldl (λ(cs:Array vL) (p:vL×Nat)=>cs.setIfInBounds (r+p.2) p.1) cs).size=cs.size /\
   ∀ i,((l.zipIdx k).foldl (λ(cs:Array vL) (p:vL×Nat)=>cs.setIfInBounds (r+p.2) p.1) cs)[i]?=if r+k<=i/\i<r+k+l.length/\i<cs.size then l[i-(r+k)]? else cs[i]?
 | [],k,cs=>by
   refine ⟨rfl,λi=>?_⟩;rw [qab so];rfl
 | v :: l,k,cs=>by
   obtain ⟨h1,h2⟩:=zln r l (k+1) (cs.setIfInBounds (r+k) v);simp only [List.zipIdx_cons,qbt];refine ⟨by rw [h1];simp,λi=>?_⟩;rw [h2];simp only [qcW,qak];by_cases hi:i=r+k
   . subst hi;rw [qab oo];by_cases hs:r+k<cs.size
     . rw [qah oo];simp [hs]
     rw [qab oo,Array.getElem?_eq_none (by rw [qcW];omega),Array.getElem?_eq_none oo]
   by_cases hr:r+(k+1)<=i/\i<r+(k+1)+l.length/\i<cs.size
   . rw [qah hr,qah oo];have:i-(r+k)=(i-(r+(k+1)))+1:=oo;rw [this,List.getElem?_cons_succ]
   rw [qab hr,qab oo,Array.getElem?_setIfInBounds_ne oo]
def zpt (v:vL) (cells:Array vL) (s:Nat) (hv:v.cells.size=s) (hc:cells.size=s):Instr.fill (λi=>some (i*s,s)) cells [(0,v)]=some v.cells:=by
 unfold Instr.fill;simp only [Nat.zero_mul];rw [qab so];unfold Instr.fill;congr 1;obtain ⟨_,h2⟩:=zln 0 v.cells.toList 0 cells
 have e:v.cells.zipIdx.foldl (λ(cs:Array vL) (x:vL×Nat)=>match x with | (c,j)=>cs.setIfInBounds (0+j) c) cells
     = (v.cells.toList.zipIdx 0).foldl (λ(cs:Array vL) (p:vL×Nat)=>cs.setIfInBounds (0+p.2) p.1) cells:=by
   rw [<-Array.foldl_toList,Array.toList_zipIdx]
 rw [e];apply Array.ext_getElem?;intro i;rw [h2];by_cases hi:i<s
 . rw [qah so];simp
 rw [qab so,Array.getElem?_eq_none oo,Array.getElem?_eq_none oo]
section
variable {w w' w'':wD} {lo hi a b:Nat}
end
def RowI {α:Type} [Rep α] (lo hi:Nat) (e:TypeId) (w:wD) (v:vL) (l:List α):Prop:=(∃ a,v=.slice a 0 0/\l=[])\/∃ F,RowF F e w v l/\F.Nodup/\∀ b∈F,lo<=b/\b<hi
section
variable {P:pG} {w w0 w':wD} {α:Type} [Rep α] {lo hi a b e:Nat} {v:vL} {l:List α}
def zc8 (a:Option Addr):OwnI (α:=List α) lo hi w (.slice a 0 0) []:=
 ⟨[],⟨⟨_,⟨a,0,[],[],rfl,lr _,z0 _,⟨rfl,rfl⟩,.inl ⟨rfl,rfl⟩⟩,rfl⟩,qav,Wr.nil w⟩,sS⟩
def RowI.ext (h:RowI lo hi e w v l) (hx:Ext w w'):RowI lo hi e w' v l:=by
 rcases h with h | ⟨F,h1,h2,h3⟩
 . exact .inl h
 exact .inr ⟨F,h1.ext hx,h2,h3⟩
def RowI.chg (h:RowI lo hi e w v l) (hc:ChgI a b w w') (hd:hi<=a\/b<=lo):RowI lo hi e w' v l:=by
 rcases h with h | ⟨F,h1,h2,h3⟩
 . exact .inl h
 exact .inr ⟨F,h1.keep λc g0=>hc.block c (h1.lt c g0) (by have:=h3 c g0;omega),h2,h3⟩
def RowI.own (h:RowI lo hi e w v l):OwnI lo hi w v l:=by
 rcases h with ⟨a,rfl,rfl⟩ | ⟨F,h1,h2,h3⟩
 . exact zc8 a
 exact ⟨F,⟨h1.own,h2,h1.wr⟩,h3⟩
def RowI.is (h:RowI lo hi e w v l):Is w v l:=h.own.is
def RowI.mono {lo' hi':Nat} (h:RowI lo hi e w v l) (h1:lo'<=lo) (h2:hi<=hi'):RowI lo' hi' e w v l:=by
 rcases h with h | ⟨F,h1,h2,h3⟩
 . exact .inl h
 exact .inr ⟨F,h1,h2,λb hb=>by have:=h3 b hb;omega⟩
def zcd (lo hi e:Nat) (w:wD) (a:Option Addr):RowI (α:=α) lo hi e w (.slice a 0 0) []:=.inl ⟨a,rfl,rfl⟩
def zb7 (lo hi e:Nat) (w:wD):RowI (α:=α) lo hi e w (.slice none 0 0) []:=.inl ⟨none,rfl,rfl⟩
def zho (e:Nat) (w:wD):RowF (α:=α) [] e w (.slice none 0 0) []:=⟨[],[],⟨sS,.inl ⟨rfl,rfl⟩⟩,⟨rfl,rfl⟩,rfl,Wr.nil _⟩
def zjn {m1 m2:Sem vL} {K:vL->wD->Prop} (h:m1.run P w=m2.run P w) (k:OP P m2 w K):OP P m1 w K:=by
 obtain ⟨v,w',hr,hk⟩:=k;exact ⟨v,w',h.trans hr,hk⟩
def zfF {t ty:TypeId} {by_ n c:Nat} {x:Addr} {b o:Nat} {xs:List vL} (ht:P.underlying t=some (.slice e)) (he:tyI P e=some (Rep.size α,by_,Rep.agg α)) (g1:(P.info? e).map (λi=>(i.zero.map (·.cells.size)))=some (some (Rep.size α)))
   (hl:xs.length=n*Rep.size α) (hr:w.rangeAt b o xs) (h0:0<n) (hm:n<=maxLen) (hb:n*by_<=140737488355328) :
   (Builtin.append_ #[t,t] ty #[.slice (some x) 0 0,.slice (some ⟨b,o,none⟩) n c]).run P w=(Builtin.append_ #[t,t] ty #[.slice none 0 0,.slice (some ⟨b,o,none⟩) n c]).run P w:=by
 obtain ⟨i,_,hi,_,hs,g0,_⟩:=zdE he;simp only [hi,qcH,qao] at g1;obtain ⟨z,hz,_⟩:=qaQ.1 g1;rw [zaj] at hm;have h1:=run_append_nil (P:=P) w t ty e i z ht hi hz ⟨b,o,none⟩ n c xs (by rw [hs];exact hl) (λj u hu=>by rw [Addr.add_mid];exact hr j u hu) h0 oo (by rw [g0];omega);have h2:=run_append_grow (P:=P) w t ty e i z ht hi hz x 0 0 [] sS sS ⟨b,o,none⟩ n c xs (by rw [hs];exact hl) (λj u hu=>by rw [Addr.add_mid];exact hr j u hu) oo oo (growslice_fits oo (by rw [g0];simpa using hb));rw [h1,h2];simp
def zjo {t:TypeId} {by_:Nat} {u:vL} {x:α} {K:vL->wD->Prop} (ht:P.underlying t=some (.slice e)) (he:tyI P e=some (Rep.size α,by_,Rep.agg α)) (hz:zbZ P e=true) (hsz:Rep.size α<=1000)
   {F:List Nat} (hx:Mine F w u x)
   (k:∀ w',Ext w w'->Mine (w.heap.size :: F) w' (.slice (some ⟨w.heap.size,0,none⟩) 1 1) [x]->K (.slice (some ⟨w.heap.size,0,none⟩) 1 1) w'):OP P (Instr.buildSlice t 1 #[(0,u)]) w K:=by
 obtain ⟨⟨cs,hr,rfl⟩,hn,hw⟩:=hx;have g2:=ze3 hr;have g0:=Rep.len hr;have g3:(mkv α cs).cells.size=Rep.size α:=by rw [<-qaH,g2,g0]
 obtain ⟨_,_,hi,_,_,_,_⟩:=zdE he;unfold zbZ at hz;rw [hi] at hz;obtain ⟨_,hz⟩:=qbj.1 hz;have:=Rep.pos (α:=α);refine ⟨_,w.alloc (.cells (mkv α cs).cells e),?_,k _ (zaX w _) ?_⟩
 . have g4:¬Rep.size α=0:=oo;have g5:¬2^24<Rep.size α:=oo;simp only [Instr.buildSlice,Sem.run_bind,run_underlying ht,Result.andThen_ok,zaJ he,qbN];simp [g5,g4,zeroValue,typeInfo,hi,hz,zpt _ _ _ g3,newRow]
 have hx:=zaX w (.cells (mkv α cs).cells e);have hB:(w.alloc (.cells (mkv α cs).cells e)).heap[w.heap.size]?=some (.cells (mkv α cs).cells e (0,0)):=heap_alloc_new w _;have g1:=Rep.lt hr;refine ⟨⟨_,⟨_,1,F,cs,rfl,lr _,by rw [zaj];omega,Cells.single (zcp hr hx),.inr ⟨w.heap.size,0,rfl,rfl,?_,?_⟩⟩,rfl⟩,?_,?_⟩
 . intro _ _ hy;simp only [World.cell?,hB];rw [<-g2] at hy;simpa using hy
 . exact (Array.getElem?_eq_some_iff.1 hB).1
 . exact qaP.2 ⟨λh=>by have:=g1 _ h;omega,hn⟩
 intro c hc;rcases qaa.1 hc with rfl | hc
 . exact ⟨_,_,hB⟩
 exact hw.ext hx c hc
def zgr {t:TypeId} {by_:Nat} {u:vL} {x:α} {K:vL->wD->Prop} (ht:P.underlying t=some (.slice e)) (he:tyI P e=some (Rep.size α,by_,Rep.agg α)) (hz:zbZ P e=true) (g1:Rep.size α<=1000)
   (hx:OwnI lo hi w u x) (g3:lo<=w.heap.size)
   (k:∀ v w',Ext w w'->OwnI lo w'.heap.size w' v [x]->K v w'):OP P (Instr.buildSlice t 1 #[(0,u)]) w K:=by
 obtain ⟨_,hm,hF⟩:=hx;refine zjo ht he hz g1 hm λw' g2 g0=>k _ w' g2 ⟨_,g0,λb hb=>⟨?_,g0.lt b hb⟩⟩;rcases qaa.1 hb with rfl | hb
 . exact g3
 exact (hF b hb).1
def zaD {t:TypeId} {by_:Nat} {K:vL->wD->Prop} (ht:P.underlying t=some (.slice e)) (he:tyI P e=some (Rep.size α,by_,Rep.agg α))
   (k:∀ a w',Ext w w'->RowI (α:=α) w'.heap.size w'.heap.size e w' (.slice (some a) 0 0) []->K (.slice (some a) 0 0) w'):OP P (Instr.buildSlice t 0 #[]) w K:=
 zjg (α:=α) ht he λa w' hx hr=>k _ w' hx (zcd _ _ _ _ _)
def zpu {t ty:TypeId} {by_:Nat} {u:vL} {x:α} {lo2 hi2:Nat} {K C:vL->wD->Prop} (ht:P.underlying t=some (.slice e)) (he:tyI P e=some (Rep.size α,by_,Rep.agg α)) (hz:zbZ P e=true)
   (gd:(P.info? e).map (λi=>(i.zero.map (·.cells.size)))=some (some (Rep.size α))) (gg:Rep.size α<=1000) (hv:RowI lo hi e w v l) (hlo:lo<=w.heap.size) (hx:OwnI lo2 hi2 w u x) (hl:hi<=lo2) (hl2:lo<=lo2) (hm:l.length+1<=maxLen) (hb:(l.length+1)*by_<=140737488355328)
   (k:∀ v' w',ChgI lo hi w w'->RowI lo w'.heap.size e w' v' (l++[x])->K v' w')
   (hC:∀ s w1,Ext w w1->OP P (Builtin.append_ #[t,t] ty [v,s].toArray) w1 K->C s w1):OP P (Instr.buildSlice t 1 #[(0,u)]) w C:=by
 obtain ⟨G,g5,hG⟩:=hx;refine zjo ht he hz gg g5 λw1 g1 gh=>?_;obtain ⟨⟨_,⟨_,_,Fi,xs,rfl,_,_,hc,h4⟩,g0⟩,_,gi⟩:=gh;simp only [mkv,Rep.agg,cond_false,qbd,Value.slice.injEq,qak,qaC] at g0;obtain ⟨rfl,_,rfl⟩:=g0;rcases h4 with ⟨h4,_⟩ | ⟨b,o,g3,g9,gb,_⟩
 . simp at h4
 simp only [qbk] at g9;obtain ⟨_,rfl⟩:=g9
 have gc:∀ (v:vL) (F:List Nat),RowF F e w v l->F.Nodup->(∀ b∈F,lo<=b/\b<hi)->OP P (Builtin.append_ #[t,t] ty [v,.slice (some ⟨w.heap.size,0,none⟩) 1 1].toArray) w1 K:=by
   intro v F hF g2 r;have gj:=hF.ext g1
   have hd:(G++F).Nodup:=by
     rw [qas];refine ⟨g5.nodup,g2,λp hp _ hq e=>?_⟩;subst e;have:=hG p hp;have:=r p hq;omega
   refine zfD (m:=[x]) ht he gd gj g2 rfl hc (.inr ⟨b,o,g3,gb⟩) (gi.sub sc) hd (by simpa using hm) (by simpa using hb) λv' w' F' gl _ gf gp gq=>?_
   have g4:∀ c∈v.ownBlock.toList,lo<=c/\c<hi:=λc hc=>by
     obtain ⟨xs,Fi,_,_,rfl,_⟩:=hF;exact r c (by simp only [qae];exact .inl hc)
   refine k v' w' ((Ext.toI g1).trans (gl.toI g4)) (.inr ⟨F',gf,gp,λc hc=>⟨?_,gf.lt c hc⟩⟩);rcases gq c hc with h | h | h
   . exact (r c h).1
   . have:=hG c h;omega
   have:=g1.size;omega
 refine hC _ w1 g1 ?_;rcases hv with ⟨a0,rfl,rfl⟩ | ⟨F,hF,g2,r⟩
 . have kn:=gc (.slice none 0 0) [] (zho e w) qav sS;cases a0 with
   | none=>exact kn
   | some x0=>
     simp only [qao,Addr.mk.injEq] at g3;obtain ⟨rfl,rfl,_⟩:=g3;exact zjn (zfF (α:=α) (n:=1) ht he gd (by simpa using Cells.len hc) gb oo (by rw [zaj];omega) (by simpa using hb)) kn
 exact gc v F hF g2 r
def zbM {t ty:TypeId} {by_:Nat} {u:vL} {x:α} {lo2 hi2:Nat} {K:vL->wD->Prop} (ht:P.underlying t=some (.slice e)) (he:tyI P e=some (Rep.size α,by_,Rep.agg α)) (hz:zbZ P e=true)
   (hzc:(P.info? e).map (λi=>(i.zero.map (·.cells.size)))=some (some (Rep.size α))) (hsz:Rep.size α<=1000) (hv:RowI lo hi e w v l) (hlo:lo<=w.heap.size) (hx:OwnI lo2 hi2 w u x) (hl:hi<=lo2) (hl2:lo<=lo2) (hm:l.length+1<=maxLen) (hb:(l.length+1)*by_<=140737488355328)
   (k:∀ v' w',ChgI lo hi w w'->RowI lo w'.heap.size e w' v' (l++[x])->K v' w'):OP P (Instr.buildSlice t 1 #[(0,u)]) w λs w1=>OP P (Builtin.append_ #[t,t] ty [v,s].toArray) w1 K:=
 zpu ht he hz hzc hsz hv hlo hx hl hl2 hm hb k λ_ _ _ h=>h
def zlo {t ty:TypeId} {by_:Nat} {u:vL} {x:α} {lo2 hi2:Nat} {K:vL->wD->Prop} (ht:P.underlying t=some (.slice e)) (he:tyI P e=some (Rep.size α,by_,Rep.agg α)) (hz:zbZ P e=true)
   (hzc:(P.info? e).map (λi=>(i.zero.map (·.cells.size)))=some (some (Rep.size α))) (hsz:Rep.size α<=1000) (hv:RowI lo hi e w v l) (hlo:lo<=w.heap.size) (hx:OwnI lo2 hi2 w u x) (hl:hi<=lo2) (hl2:lo<=lo2) (hm:l.length+1<=maxLen) (hb:(l.length+1)*by_<=140737488355328)
   (k:∀ v' w',ChgI lo hi w w'->RowI lo w'.heap.size e w' v' (l++[x])->K v' w'):OP P (Instr.buildSlice t 1 #[(0,u)]) w λs w1=>Ext w w1/\OP P (Builtin.append_ #[t,t] ty [v,s].toArray) w1 K:=
 zpu ht he hz hzc hsz hv hlo hx hl hl2 hm hb k λ_ _ hx h=>⟨hx,h⟩
def zd0 [Flat α] {t ty:TypeId} {by_:Nat} {g9:vL} {m:List α} {K:vL->wD->Prop} (ht:P.underlying t=some (.slice e)) (he:tyI P e=some (Rep.size α,by_,Rep.agg α))
   (g4:(P.info? e).map (λi=>(i.zero.map (·.cells.size)))=some (some (Rep.size α))) (hv:RowI lo hi e w v l) (hlo:lo<=w.heap.size) (hs:Is w0 g9 m) (hx:Ext w0 w) (hm:l.length+m.length<=maxLen) (hb:(l.length+m.length)*by_<=140737488355328)
   (k:∀ v' w',ChgI lo hi w w'->RowI lo w'.heap.size e w' v' (l++m)->K v' w'):OP P (Builtin.append_ #[t,t] ty [v,g9].toArray) w K:=by
 obtain ⟨a,cap,Fi,xs,rfl,_,_,hc,h4⟩:=zcE (hs.ext hx);have gb:=Cells.flat (xs:=xs) hc;subst gb
 have g3:∀ (v:vL) (F:List Nat),RowF F e w v l->F.Nodup->(∀ b∈F,lo<=b/\b<hi)->OP P (Builtin.append_ #[t,t] ty [v,.slice a m.length cap].toArray) w K:=by
   intro v F hF g0 g1;refine zfD (m:=m) ht he g4 hF g0 rfl hc (by rcases h4 with h | ⟨b,o,ha,hr,_⟩;exact .inl h;exact .inr ⟨b,o,ha,hr⟩) (Wr.nil _) (by simpa using g0) hm hb λv' w' F' gc _ g5 gd gf=>?_
   have g2:∀ c∈v.ownBlock.toList,lo<=c/\c<hi:=λc hc=>by
     obtain ⟨xs,Fi,_,_,rfl,_⟩:=hF;exact g1 c (by simp only [qae];exact .inl hc)
   refine k v' w' (gc.toI g2) (.inr ⟨F',g5,gd,λc hc=>⟨?_,g5.lt c hc⟩⟩);rcases gf c hc with h | h | h
   . exact (g1 c h).1
   . simp at h
   omega
 rcases hv with ⟨a0,rfl,rfl⟩ | ⟨F,hF,g0,g1⟩
 . have kn:=g3 (.slice none 0 0) [] (zho e w) qav sS;cases a0 with
   | none=>exact kn
   | some x0=>
     by_cases hm0:m=[]
     . subst hm0;refine ⟨.slice (some x0) 0 0,w,?_,k _ w (ChgI.refl w) (zcd _ _ _ _ _)⟩
       have hf:(Builtin.firstCells (Rep.size α) 0 (.slice a 0 cap)).run P w=.ok #[] w:=by
         cases a with
         | none=>rfl
         | some a=>simp [Builtin.firstCells,loadCells,loadCellsFrom]
       simp [Builtin.append_,run_underlying ht,zaJ he,Builtin.lenOf,hf,storeCells]
     rcases h4 with h | ⟨b,o,rfl,hr,_⟩
     . exact absurd h hm0
     exact zjn (zfF (α:=α) ht he g4 (Cells.len hc) hr (qaO.2 hm0) (by simpa using hm) (by simpa using hb)) kn
 exact g3 v F hF g0 g1
def zpv {a:Option Addr} {cap:Nat} {l:List α} (h:Is w (.slice a l.length cap) l) (k:Nat) (hk:k<=l.length):Is w (.slice a k cap) (l.take k):=by
 obtain ⟨_,_,⟨_,_,_,_,rfl,_,h2,hc,h4⟩,hv⟩:=h;simp only [mkv,Rep.agg,cond_false,qbd,Value.slice.injEq] at hv;obtain ⟨rfl,_,rfl⟩:=hv;have e:l=l.take k++l.drop k:=by simp
 have r:(l.take k).length=k:=by simp;omega
 rw [e] at hc;obtain ⟨F1,_,x1,_,rfl,rfl,c1,_⟩:=Cells.split hc;by_cases hd:l.take k=[]
 . refine ⟨[],_,⟨a,cap,F1,x1,rfl,by rw [r];omega,h2,c1,.inl ⟨hd,rfl⟩⟩,?_⟩;rw [r];rfl
 rcases h4 with ⟨rfl,_⟩ | ⟨b,o,rfl,rfl,hr,hb⟩
 . simp at hd
 refine ⟨_,_,⟨some ⟨b,o,none⟩,cap,F1,x1,rfl,by rw [r];omega,h2,c1,.inr ⟨b,o,rfl,rfl,(zaK hr).1,hb⟩⟩,?_⟩;rw [r];rfl
def ziJ {t:TypeId} {by_:Nat} {v:vL} {l:List α} {i:Int} {K:vL->Prop} (ht:P.underlying t=some (.slice e)) (he:tyI P e=some (Rep.size α,by_,Rep.agg α)) (h:Is w0 v l) (h0:0<=i) (h1:i.toNat<=l.length)
   (k:∀ v',Is w0 v' (l.take i.toNat)->K v'):RD P (Instr.sliceAt t v none (some (.int .i64 i)) none) w K:=by
 obtain ⟨a,cap,_,_,rfl,_,_,_,_⟩:=zcE h
 have hb:∀ w',(Instr.sliceBounds true l.length cap none (some (.int .i64 i)) none).run P w'=.ok (0,i.toNat,cap) w':=λw'=>by
   have:i<=(cap:Int):=oo;simp [Instr.sliceBounds,Instr.sliceBound,asIntOf,h0,this]
 refine zba (v:=.slice a i.toNat cap) (λw' _=>?_) (k _ (zpv h i.toNat h1))
 have hz:(if cap=0 then a else a.map (λx=>x.add (0*Rep.size α)))=a:=by
   split
   . rfl
   cases a<;>simp [Addr.add_mid,Addr.add]
 simp only [Instr.sliceAt,Instr.slice,Sem.run_bind,run_underlying ht,Result.andThen_ok,hb,zaJ he];simp;exact λ_=>by cases a<;>simp [Addr.add_mid,Addr.add]
def zpw {t:TypeId} {by_:Nat} {v:vL} {l:List α} {i j:Int} {K:vL->Prop} (ht:P.underlying t=some (.slice e)) (he:tyI P e=some (Rep.size α,by_,Rep.agg α)) (h:Is w0 v l) (h0:0<=i) (h1:i<=j) (h2:j.toNat<=l.length)
   (k:∀ v',Is w0 v' ((l.take j.toNat).drop i.toNat)->K v'):RD P (Instr.sliceAt t v (some (.int .i64 i)) (some (.int .i64 j)) none) w K:=by
 obtain ⟨a,cap,_,_,rfl,_,_,_,_⟩:=zcE h
 have hb:∀ w',(Instr.sliceBounds true l.length cap (some (.int .i64 i)) (some (.int .i64 j)) none).run P w'=.ok (i.toNat,j.toNat,cap) w':=λw'=>by
   have h3:j<=(cap:Int):=oo;have h5:0<=j:=oo;simp [Instr.sliceBounds,Instr.sliceBound,asIntOf,h0,h1,h3,h5];intro _;omega
 have hl:(l.take j.toNat).length=j.toNat:=by rw [qaj];omega
 have g0:Is w0 (.slice a (l.take j.toNat).length cap) (l.take j.toNat):=by rw [hl];exact zpv h j.toNat h2
 have hd:=zsX g0 i.toNat oo (Rep.size α) rfl;rw [hl] at hd;refine zba (λw' _=>?_) (k _ hd);simp only [Instr.sliceAt,Instr.slice,Sem.run_bind,run_underlying ht,Result.andThen_ok,hb,zaJ he];simp
def AtB {α:Type} [Rep α] (W w:wD) (b o:Nat) (x:α):Prop:=∃ F cs,rep F W cs x/\w.rangeAt b o cs
def AtB.keep {W w':wD} {b o:Nat} {x:α} (h:AtB W w b o x) (hb:w'.heap[b]?=w.heap[b]?):AtB W w' b o x:=by
 obtain ⟨F,cs,hr,ha⟩:=h;exact ⟨F,cs,hr,zbo ha hb⟩
def AtB.ext {W:wD} {b o:Nat} {x:α} (h:AtB W w b o x) (hx:Ext w w'):AtB W w' b o x:=by
 obtain ⟨F,cs,hr,ha⟩:=h;exact ⟨F,cs,hr,zbQ ha hx⟩
def AtB.at {W:wD} {b o:Nat} {x:α} (h:AtB W w b o x) (hx:Ext W w):At w b o x:=by
 obtain ⟨F,cs,hr,ha⟩:=h;exact ⟨F,cs,zcp hr hx,ha⟩
def AtB.fst {β:Type} [Rep β] {W:wD} {b o:Nat} {p:α×β} (h:AtB W w b o p):AtB W w b o p.1:=by
 obtain ⟨_,_,⟨F1,_,c1,_,rfl,rfl,h1,_⟩,hr⟩:=h;exact ⟨F1,c1,h1,(zaK hr).1⟩
def AtB.snd {β:Type} [Rep β] {W:wD} {b o:Nat} {p:α×β} (h:AtB W w b o p):AtB W w b (o+Rep.size α) p.2:=by
 obtain ⟨_,_,⟨_,F2,_,c2,rfl,rfl,h1,h2⟩,hr⟩:=h;have:=(zaK hr).2;rw [Rep.len h1] at this;exact ⟨F2,c2,h2,this⟩
def zfG {W:wD} {t by_ b o:Nat} {x:α} {K:vL->Prop} (ht:tyI P t=some (Rep.size α,by_,Rep.agg α)) (h:AtB W w0 b o x) (hW:Ext W w0) (hx:Ext w0 w) (k:∀ v,Is W v x->K v) :
   RD P (Instr.loadAt t (.pointer (some ⟨b,o,none⟩))) w K:=by
 obtain ⟨F,cs,hr,hc⟩:=h;exact zba (λ_ g0=>zfC ht (zcp hr (hW.trans (hx.t g0))) (zbQ hc (hx.t g0))) (k _ ⟨F,cs,hr,rfl⟩)
def zga {W w1:wD} {g:Nat} {x:α} {t:TypeId} (h:Is W v x) (hV:Var P t w1 g v) (ha:Rep.agg α=true):AtB W w1 g 0 x:=by
 obtain ⟨F,cs,hr,rfl⟩:=h;obtain ⟨_,g0,_,hB,hv,_⟩:=hV
 have:g0=cs:=by
   simp only [mkv,ha,cond_true,Value.agg.injEq] at hv;have:=qax Array.toList hv;simpa using this.symm
 subst this;exact ⟨F,_,hr,hB.range⟩
theorem zyz [RepZ α] {t:TypeId} {fs:Array Field} {K:vL->Prop} (hu:P.underlying t=some (.struct fs)) (hz:zcu P t=some (RepZ.zc α)) (hf:(fs.toList.all λf=>(P.info? f.type).isSome)=true) (ha:Rep.agg α=true)
   (k:∀ v,Is w v (RepZ.zv:α)->K v):RD P (Instr.build t #[]) w K:=by
 unfold zcu at hz;cases hi:P.info? t with
 | none=>simp [hi] at hz
 | some i=>
   simp only [hi] at hz;obtain ⟨z,g0,g1⟩:=qaQ.1 hz
   have hm:∀ w',∃ ps,(fs.mapM λf=>do pure (f.offset,<-sizeOf f.type):Sem (Array (Nat×Nat))).run P w'=.ok ps w':=by
     intro w'
     have:∀ l:List Field,(l.all λf=>(P.info? f.type).isSome)=true->∃ ps,(l.mapM λf=>do pure (f.offset,<-sizeOf f.type):Sem (List (Nat×Nat))).run P w'=.ok ps w':=by
       intro l
       induction l with
       | nil=>intro _;exact ⟨[],sS⟩
       | cons f l ih=>
         intro h;simp only [List.all_cons,qar] at h;obtain ⟨j,hj⟩:=qbj.1 h.1;obtain ⟨ps,r⟩:=ih h.2;have g2:(sizeOf f.type).run P w'=.ok j.size w':=by simp [sizeOf,typeInfo,hj]
         exact ⟨(f.offset,j.size) :: ps,by simp only [qcN,Sem.run_bind,g2,Result.andThen_ok,Sem.run_pure,r]⟩
     obtain ⟨ps,r⟩:=this fs.toList hf;exact ⟨ps.toArray,by rw [qcO];simp only [map_eq_pure_bind,Sem.run_bind,r,Result.andThen_ok,Sem.run_pure]⟩
   refine zba (v:=mkv α (RepZ.zc α)) (λw' _=>?_) (k _ ⟨[],_,RepZ.zr w,rfl⟩);obtain ⟨ps,r⟩:=hm w';have e:z.cells=(RepZ.zc α).toArray:=by rw [<-g1]
   have g3:(zeroValue t).run P w'=.ok z w':=by simp [zeroValue,typeInfo,hi,g0]
   simp only [Instr.build,Sem.run_bind,g3,Result.andThen_ok,run_underlying hu,r];simp [Instr.fill,mkv,ha,e]
end
end Go.Sh
namespace Go.Proofs.YtkgiigmcbgifdaaGreat
open Go Go.Sh Go.Proofs
open Rep (rep)
variable {F:List Nat} {W W0 W1 w:wD} {b k n o:Nat} {d:Int} {ty:TypeId} {v v0 v1:vL}
def zbj:Nat->DTerm->Bool
 | n,.mk k num s ks=>
   if k=1 then decide (0<=num/\num<=1000000000)&&decide (s=ByteArray.mk #[])&&decide ((ks.length:Int)=0)
   else if k=2 then decide (num=0)&&zbD s&&decide ((ks.length:Int)=0)
   else decide (3<=k/\k<=9)&&decide (num=0)&&decide (s=ByteArray.mk #[])&&decide ((ks.length:Int)=if k=8 then 1 else 2) &&
     (match n with | 0=>false | m+1=>ks.all (zbj m))
def zfp {t:DTerm} (h:t.kind=1):zbj n t=(decide (0<=t.num/\t.num<=1000000000)&&decide (t.name=ByteArray.mk #[])&&decide ((t.kids.length:Int)=0)):=by
 obtain ⟨k,_,_,_⟩:=t;have:k=1:=h;unfold zbj;rw [qah this];rfl
def zgR {t:DTerm} (h:t.kind=2):zbj n t=(decide (t.num=0)&&zbD t.name&&decide ((t.kids.length:Int)=0)):=by
 obtain ⟨k,_,_,_⟩:=t;have:k=2:=h;unfold zbj;rw [qab oo,qah this];rfl
def zbJ {t:DTerm} (h1:¬t.kind=1) (h2:¬t.kind=2):zbj n t =
   (decide (3<=t.kind/\t.kind<=9)&&decide (t.num=0)&&decide (t.name=ByteArray.mk #[])&&decide ((t.kids.length:Int)=if t.kind=8 then 1 else 2)&&(match n with | 0=>false | m+1=>t.kids.all (zbj m))):=by
 obtain ⟨k,_,_,_⟩:=t;have h1:¬k=1:=h1;have h2:¬k=2:=h2;unfold zbj;rw [qab h1,qab h2];rfl
def zlp {α:Type} {p:α->Bool} {l:List α} (hk:k<l.length) (h:(l.take k).all p=true) (hp:p l[k]=true):(l.take (k+1)).all p=true:=by
 rw [tk hk,List.all_append,h];simp [hp]
def zjp {α:Type} {p:α->Bool} {l:List α} (hk:k<l.length) (hp:p l[k]=false):l.all p=false:=by
 rw [List.all_eq_false];exact ⟨_,qac hk,by simp [hp]⟩
def zlq {α:Type} {p:α->Bool} {l:List α} (hk:l.length<=k) (h:(l.take k).all p=true):l.all p=true:=by
 rwa [qaf hk] at h
def zG2 (f:Nat) (n:Nat):Prop:=∀ {w W:wD} {v:vL} {t:DTerm} {d:Int},Is W v t->Ext W w->d=(n:Int) ->
 CALL tp f [v,.int .i64 d] w λr w'=>Ext w w'/\r=.bool (zbj n t)
def zpx {t:DTerm} (h0:Is W0 v0 t) (e0:Ext W0 w) (hd:d=(n:Int)) (ih:∀ m,m+1=n->zG2 226 m) (hn:n<=6) :
   CALL tp 226 [v0,.int .i64 d] w λr w'=>Ext w w'/\(r=.bool (zbj n t)):=by
 refine co (g:=kf [(18,9223372036854775696,[])] [(21,309182778366441411431104592,[78])] []) Tryz.func226 ?_;refine zax zbl rfl h0 e0 λC y1 D _=>JOIN.mk (λus w'=>us=[]/\Ext C w'/\(3<=t.kind/\t.kind<=9/\(t.kids.length:Int)=(if t.kind=8 then 1 else 2))) ?_ ?_
 . refine zaa zdK ?_;refine zac ty3 (zbT D) (xrf C) λ_=>zai<|br (λc1=>?_) (λc1=>?_)
   . refine zaa zeG ?_;refine zac ty3 (zcv D) (xrf C) λ_=>zb9<|br (λc2=>?_) (λc2=>?_)
     . refine zaa zeG ?_;refine zac ty3 (zcv D) (xrf C) λ_=>zew<|br (λc3=>?_) (λc3=>?_)
       . refine zaa zdX ?_;refine zar ty9 (zb3 D) (xrf C) λ_=>zaQ<|br (λc4=>?_) (λc4=>?_)
         . refine zaa zbL ?_;refine zab zd7 (za0 D) (xrf C) λ_ g4=>?_;have:=zak g4;refine zae zio g4<|zai<|⟨y1,?_⟩;rw [zfp c1];simp only [c2,c3,c4,and_self,qa6,qbX]
         refine ⟨y1,?_⟩;rw [zfp c1];simp only [c4,qam,qbu,qbn]
       refine ⟨y1,?_⟩;rw [zfp c1];simp only [c3,and_false,qam,qbn]
     refine ⟨y1,?_⟩;rw [zfp c1];simp only [c2,false_and,qam,qbn]
   refine zai<|br (λc5=>?_) (λc5=>?_)
   . refine zaa zeG ?_;refine zac ty3 (zcv D) (xrf C) λ_=>zai<|br (λc6=>?_) (λc6=>?_)
     . refine zaa zdX ?_;refine zar ty9 (zb3 D) (xrf C) λ_=>?_;refine (zjm ).mono ?_;rintro _ _ ⟨y3,rfl⟩;refine zbX (λc7=>?_) (λc7=>?_)
       . refine zaa zbL ?_;refine zab zd7 (za0 D) y3 λ_ g5=>?_;have:=zak g5;refine zae zio g5<|zai<|⟨(y1.t y3),?_⟩;rw [zgR c5];simp only [c6,c7,qa6,qbX]
       refine ⟨(y1.t y3),?_⟩;rw [zgR c5];simp only [c6,c7,qa6,qbX,qbn]
     refine ⟨y1,?_⟩;rw [zgR c5];simp only [c6,qam,qbn]
   refine zai<|br (λc8=>?_) (λc8=>?_)
   . refine zaa zbL ?_;refine zab zd7 (za0 D) (xrf C) λV I=>?_;have O:=zak I;refine zae zio I<|zaT<|br (λc9=>?_) (λc9=>?_)
     . refine ⟨y1,?_⟩;rw [zbJ c1 c5];simp [show ¬t.kind=8 by omega,show ¬(t.kids.length:Int)=2 from c9]
     refine ⟨sS,xrf C,?_⟩;split<;>omega
   refine zai<|br (λgp=>?_) (λgp=>?_)
   . refine zaa zbL ?_;refine zab zd7 (za0 D) (xrf C) λV I=>?_;have O:=zak I;refine zae zio I<|zaT<|br (λg9=>?_) (λg9=>?_)
     . refine ⟨y1,?_⟩;rw [zbJ c1 c5];simp [show ¬t.kind=8 by omega,show ¬(t.kids.length:Int)=2 from g9]
     refine ⟨sS,xrf C,?_⟩;split<;>omega
   refine zai<|br (λgq=>?_) (λgq=>?_)
   . refine zaa zbL ?_;refine zab zd7 (za0 D) (xrf C) λV I=>?_;have O:=zak I;refine zae zio I<|zaT<|br (λgb=>?_) (λgb=>?_)
     . refine ⟨y1,?_⟩;rw [zbJ c1 c5];simp [show ¬t.kind=8 by omega,show ¬(t.kids.length:Int)=2 from gb]
     refine ⟨sS,xrf C,?_⟩;split<;>omega
   refine zai<|br (λgr=>?_) (λgr=>?_)
   . refine zaa zbL ?_;refine zab zd7 (za0 D) (xrf C) λV I=>?_;have O:=zak I;refine zae zio I<|zaT<|br (λgc=>?_) (λgc=>?_)
     . refine ⟨y1,?_⟩;rw [zbJ c1 c5];simp [show ¬t.kind=8 by omega,show ¬(t.kids.length:Int)=2 from gc]
     refine ⟨sS,xrf C,?_⟩;split<;>omega
   refine zai<|br (λgs=>?_) (λgs=>?_)
   . refine zaa zbL ?_;refine zab zd7 (za0 D) (xrf C) λV I=>?_;have O:=zak I;refine zae zio I<|zaT<|br (λgd=>?_) (λgd=>?_)
     . refine ⟨y1,?_⟩;rw [zbJ c1 c5];simp [show ¬t.kind=8 by omega,show ¬(t.kids.length:Int)=2 from gd]
     refine ⟨sS,xrf C,?_⟩;split<;>omega
   refine zai<|br (λgt=>?_) (λgt=>?_)
   . refine zaa zbL ?_;refine zab zd7 (za0 D) (xrf C) λV I=>?_;have O:=zak I;refine zae zio I<|zaT<|br (λgf=>?_) (λgf=>?_)
     . refine ⟨y1,?_⟩;rw [zbJ c1 c5];simp [show ¬t.kind=8 by omega,show ¬(t.kids.length:Int)=2 from gf]
     refine ⟨sS,xrf C,?_⟩;split<;>omega
   refine zai<|br (λgg=>?_) (λgg=>?_)
   . refine zaa zbL ?_;refine zab zd7 (za0 D) (xrf C) λ_ gh=>?_;have:=zak gh;refine zae zio gh<|zaT<|br (λgi=>?_) (λgi=>?_)
     . refine ⟨y1,?_⟩;rw [zbJ c1 c5];simp [gg,show ¬(t.kids.length:Int)=1 from gi]
     refine ⟨sS,xrf C,?_⟩;split<;>omega
   refine ⟨y1,?_⟩;rw [zbJ c1 c5];simp [show ¬(3<=t.kind/\t.kind<=9) by omega]
 rintro _ gj ⟨hu,y3,gx,gy,gz⟩;try replace hu:=zbv hu
 clear hu;refine zaa zeG<|zac ty3 (zcv D) y3 λ_=>zaT<|br (λg2=>?_) (λg2=>?_)
 . refine ⟨(y1.t y3),?_⟩;rw [zbJ oo oo];simp [g2]
 refine zaa zdX<|zar ty9 (zb3 D) y3 λ_=>zpd<|br (λg3=>?_) (λg3=>?_)
 . refine ⟨(y1.t y3),?_⟩;rw [zbJ oo oo];simp [g3]
 refine zai<|br (λgC=>?_) (λgC=>?_)
 . refine ⟨(y1.t y3),?_⟩;rw [zbJ oo oo];simp [show n=0 by omega]
 refine zaa zbL<|zab zd7 (za0 D) y3 λ_ g0=>?_;have:=zak g0;refine zae zio g0<|zap (t.kids.length) (λk us w'=>us=[.int .i64 (k:Int)]/\Ext gj w'/\((t.kids.take k).all (zbj (n-1))=true)) (0) oo ⟨sS,xrf gj,sS⟩ ?_;rintro k gD _ _ _ ⟨hu,y4,U⟩;try replace hu:=zbv hu
 try rw [hu]
 try clear hu
 refine zaf<|br (λgE=>?_) (λgE=>?_)
 . refine zad zio zbl g0 oo λ_ _ gF=>?_;refine zab zbl gF (y3.t y4) λ_ gl=>zcP zv5 rfl zbl rfl gl (y3.t y4) λgG y5 _ gH=>zbr gH (xrf gG)<|zbe io ?_;refine (ih (n-1) oo gl (y3.t (y4.t y5)) oo).mono ?_;rintro _ _ ⟨y6,rfl⟩;refine za2<|zbX (λg1=>?_) (λg1=>?_)
   . refine ⟨(y1.t (y3.t (y4.t (y5.t y6)))),?_⟩;rw [zbJ oo oo];obtain ⟨m,rfl⟩:∃ m,n=m+1:=⟨n-1,oo⟩;rw [qaY,qbM] at g1;simp only [zjp oo g1,qbu]
   have:=zak g0;refine zau<|⟨gD-1,oo,k+1,oo,sS,(y4.t (y5.t y6)),?_⟩;exact zlp oo U (by simpa using g1)
 refine ⟨(y1.t (y3.t y4)),?_⟩;rw [zbJ oo oo];obtain ⟨m,rfl⟩:∃ m,n=m+1:=⟨n-1,oo⟩;rw [qbM] at U;simp only [show 3<=t.kind/\t.kind<=9 from ⟨gx,gy⟩,qai.1 g2,qai.1 g3,gz,zlq oo U,and_self,qa6,qdf]
theorem zl6:∀ (n:Nat),n<=6->zG2 226 n
 | n,hn=>by intro h e hd;exact zpx h e hd (λm hm=>zl6 m oo) hn
def zgS {t:DTerm}  (h0:Is W0 v0 t) (e0:Ext W0 w)  :
   CALL tp 167 [v0] w λr w'=>Ext w w'/\(r=.bool (zbj 6 t)):=by
 refine co (g:=kf [] [] []) Tryz.func167 ?_;refine zax zbl rfl h0 e0 λg0 y1 _ g1=>zbr g1 (xrf g0) ?_;refine ((zl6 6 oo) h0 (e0.t y1) rfl).mono ?_;rintro _ _ ⟨y2,rfl⟩;refine ⟨(y1.t y2),?_⟩;rfl
def zpy {t:DTerm} (h0:Is W0 v0 t) (e0:Ext W0 w) (hd:d=(n:Int)) (ih:∀ m,m+1=n->zG2 207 m) (hn:n<=6) :
   CALL tp 207 [v0,.int .i64 d] w λr w'=>Ext w w'/\(r=.bool (zbj n t)):=by
 refine co (g:=kf [(9,15393162788896,[5])] [(12,38685035931857774884946000,[6])] []) Tryz.func207 ?_;refine zax zbl rfl h0 e0 λI y1 C _=>zaa zdK<|zac ty3 (zbT C) (xrf I) λ_=>zai<|br (λc1=>?_) (λc1=>?_)
 . refine zaa zeG ?_;refine zac ty3 (zcv C) (xrf I) λ_=>?_;refine (l01In_ok ).mono ?_;rintro _ _ ⟨y2,rfl⟩;refine br (λc2=>?_) (λc2=>?_)
   . refine zaa zdX ?_;refine zar ty9 (zb3 C) y2 λ_=>zaQ<|br (λc3=>?_) (λc3=>?_)
     . refine zaa zbL ?_;refine zab zd7 (za0 C) y2 λ_ g4=>?_;have:=zak g4;refine zae zio g4<|zai<|⟨(y1.t y2),?_⟩;rw [zfp c1];simp only [c2,c3,and_self,qa6,qbX]
     refine ⟨(y1.t y2),?_⟩;rw [zfp c1];simp only [c3,qam,qbu,qbn]
   refine ⟨(y1.t y2),?_⟩;rw [zfp c1];simp only [c2,qam,qbn]
 refine zai<|br (λc4=>?_) (λc4=>?_)
 . refine zaa zeG ?_;refine zac ty3 (zcv C) (xrf I) λ_=>zai<|br (λc5=>?_) (λc5=>?_)
   . refine zaa zdX ?_;refine zar ty9 (zb3 C) (xrf I) λ_=>?_;refine (specIsName_ok ).mono ?_;rintro _ _ ⟨y3,rfl⟩;refine zbX (λc6=>?_) (λc6=>?_)
     . refine zaa zbL ?_;refine zab zd7 (za0 C) y3 λ_ g5=>?_;have:=zak g5;refine zae zio g5<|zai<|⟨(y1.t y3),?_⟩;rw [zgR c4];simp only [c5,c6,qa6,qbX]
     refine ⟨(y1.t y3),?_⟩;rw [zgR c4];simp only [c5,c6,qa6,qbX,qbn]
   refine ⟨y1,?_⟩;rw [zgR c4];simp only [c5,qam,qbn]
 refine JOIN.mk (λus w'=>us=[.int .i64 (if t.kind=8 then 1 else 2)]/\Ext I w'/\(True)) ?_ ?_
 . refine zaa zdK ?_;refine zac ty3 (zbT C) (xrf I) λ_=>zai<|br (λc7=>?_) (λc7=>?_)
   . refine ⟨by rw [qah c7],xrf I,?_⟩;trivial
   refine ⟨by rw [qab c7],xrf I,?_⟩;trivial
 rintro _ _ ⟨hu,y4,D⟩;try replace hu:=zbv hu
 try rw [hu]
 try clear hu
 refine zaa zdK<|zac ty3 (zbT C) y4 λ_=>?_;refine (l01In_ok ).mono ?_;rintro _ g9 ⟨y5,rfl⟩;refine zav<|br (λc8=>?_) (λc8=>?_)
 . refine ⟨(y1.t (y4.t y5)),?_⟩;rw [zbJ c1 c4];simp only [c8,qam,qbn]
 refine zaa zeG<|zac ty3 (zcv C) (y4.t y5) λ_=>zaT<|br (λc9=>?_) (λc9=>?_)
 . refine ⟨(y1.t (y4.t y5)),?_⟩;rw [zbJ c1 c4];simp only [show ¬t.num=0 from c9,qam,qbn,qbu]
 refine zaa zdX<|zar ty9 (zb3 C) (y4.t y5) λ_=>zpd<|br (λg1=>?_) (λg1=>?_)
 . refine ⟨(y1.t (y4.t y5)),?_⟩;rw [zbJ c1 c4];simp only [show ¬t.name=_ from g1,qam,qbn,qbu]
 refine zaa zbL<|zab zd7 (za0 C) (y4.t y5) λ_ gb=>?_;have:=zak gb;refine zae zio gb<|zaT<|br (λg2=>?_) (λg2=>?_)
 . refine ⟨(y1.t (y4.t y5)),?_⟩;rw [zbJ c1 c4];simp only [show ¬(t.kids.length:Int)=_ from g2,qam,qbn,qbu]
 refine zai<|br (λgc=>?_) (λgc=>?_)
 . refine ⟨(y1.t (y4.t y5)),?_⟩;rw [zbJ c1 c4];simp [show n=0 by omega]
 refine zap (t.kids.length) (λk us w'=>us=[.int .i64 (k:Int)]/\Ext g9 w'/\((t.kids.take k).all (zbj (n-1))=true)) (0) oo ⟨sS,xrf g9,sS⟩ ?_;rintro k gd _ _ _ ⟨hu,y6,D⟩;try replace hu:=zbv hu
 try rw [hu]
 try clear hu
 refine zaa zbL<|zab zd7 (za0 C) (y4.t (y5.t y6)) λ_ g3=>?_;have:=zak g3;refine zae zio g3<|zaf<|br (λgf=>?_) (λgf=>?_)
 . refine zaa zbL ?_;refine zab zd7 (za0 C) (y4.t (y5.t y6)) λ_ gg=>zad zio zbl gg oo λ_ _ gh=>zab zbl gh (y4.t (y5.t y6)) λ_ gi=>zbe io ?_;refine (ih (n-1) oo gi (y4.t (y5.t y6)) oo).mono ?_;rintro _ _ ⟨y7,rfl⟩;refine za2<|zbX (λg0=>?_) (λg0=>?_)
   . refine ⟨(y1.t (y4.t (y5.t (y6.t y7)))),?_⟩;rw [zbJ c1 c4];obtain ⟨m,rfl⟩:∃ m,n=m+1:=⟨n-1,oo⟩;rw [qaY,qbM] at g0;simp only [zjp oo g0,qbu]
   have:=zak g3;refine zau<|⟨gd-1,oo,k+1,oo,sS,(y6.t y7),?_⟩;exact zlp oo D (by simpa using g0)
 refine ⟨(y1.t (y4.t (y5.t y6))),?_⟩;rw [zbJ c1 c4];obtain ⟨m,rfl⟩:∃ m,n=m+1:=⟨n-1,oo⟩;rw [qbM] at D;simp only [qai.1 c8,qai.1 c9,qai.1 g1,qai.1 g2,zlq oo D,and_self,qa6,qdf]
theorem zl7:∀ (n:Nat),n<=6->zG2 207 n
 | n,hn=>by intro h e hd;exact zpy h e hd (λm hm=>zl7 m oo) hn
def zc2 {t:DTerm}  (h0:Is W0 v0 t) (e0:Ext W0 w)  :
   CALL tp 148 [v0] w λr w'=>Ext w w'/\(r=.bool (zbj 6 t)):=by
 refine co (g:=kf [] [] []) Tryz.func148 ?_;refine zax zbl rfl h0 e0 λg0 y1 _ g1=>zbr g1 (xrf g0) ?_;refine ((zl7 6 oo) h0 (e0.t y1) rfl).mono ?_;rintro _ _ ⟨y2,rfl⟩;refine ⟨(y1.t y2),?_⟩;rfl
def term0:DTerm:=.mk 0 0 (ByteArray.mk #[]) []
def zpz {t:DTerm}  (h0:Is W0 v0 t) (e0:Ext W0 w)  :
   CALL tp 168 [v0] w λr w'=>Ext w w'/\(r=.bool (decide (t=term0))):=by
 refine co (g:=kf [] [] []) Tryz.func168 ?_;refine zax zbl rfl h0 e0 λg0 y1 g1 _=>zaa zdK<|zac ty3 (zbT g1) (xrf g0) λ_=>zai<|br (λc1=>?_) (λc1=>?_)
 . refine zaa zeG ?_;refine zac ty3 (zcv g1) (xrf g0) λ_=>zai<|br (λc2=>?_) (λc2=>?_)
   . refine zaa zdX ?_;refine zar ty9 (zb3 g1) (xrf g0) λ_=>zaQ<|br (λc3=>?_) (λc3=>?_)
     . refine zaa zbL ?_;refine zab zd7 (za0 g1) (xrf g0) λ_ g2=>?_;have g3:=zak g2;refine zae zio g2<|zai<|⟨y1,?_⟩;congr 1;rw [decide_eq_decide,DTerm.ext_iff];exact ⟨λh=>⟨c1,c2,c3,qan oo⟩,λh=>by rw [h.2.2.2];rfl⟩
     refine ⟨y1,?_⟩;have:t≠term0:=λe=>c3 (by rw [e];rfl);simp [this]
   refine ⟨y1,?_⟩;have:t≠term0:=λe=>c2 (by rw [e];rfl);simp [this]
 refine ⟨y1,?_⟩;have:t≠term0:=λe=>c1 (by rw [e];rfl);simp [this]
def zk3 {t:DTerm} {t2:DTerm}  (h0:Is W0 v0 t) (e0:Ext W0 w) (h1:Is W1 v1 t2) (e1:Ext W1 w) (ht:t2=term0) :
   CALL tp 149 [v0,v1] w λr w'=>Ext w w'/\(r=.bool (decide (t=term0))):=by
 refine co (g:=kf [] [(4,9007182074871856,[5])] [(6,[0,1,2,3,4,5,6,7,8,9,10,11],0)]) Tryz.func149 ?_;subst ht;refine zax zbl rfl h0 e0 λ_ y1 D _=>zax zbl rfl h1 (e1.trans y1) λC y2 g0 _=>zaa zdK<|zac ty3 (zbT D) y2 λ_=>zaa zdK<|zac ty3 (zbT g0) (xrf C) λ_=>zaT<|br (λc1=>?_) (λc1=>?_)
 . refine ⟨(y1.t y2),?_⟩;have:t≠term0:=λe=>c1 (by rw [e]);simp [this]
 refine zaa zeG<|zac ty3 (zcv D) y2 λ_=>zaa zeG<|zac ty3 (zcv g0) (xrf C) λ_=>zaT<|br (λc2=>?_) (λc2=>?_)
 . refine ⟨(y1.t y2),?_⟩;have:t≠term0:=λe=>c2 (by rw [e]);simp [this]
 refine zaa zdX<|zar ty9 (zb3 D) y2 λ_=>zaa zdX<|zar ty9 (zb3 g0) (xrf C) λ_=>zpd<|br (λc3=>?_) (λc3=>?_)
 . refine ⟨(y1.t y2),?_⟩;have:t≠term0:=λe=>c3 (by rw [e]);simp [this]
 refine zaa zbL<|zab zd7 (za0 D) y2 λ_ g1=>?_;have g2:=zak g1;refine zae zio g1<|zaa zbL<|zab zd7 (za0 g0) (xrf C) λ_ g3=>?_;have g4:=zak g3;refine zae zio g3<|zaT<|br (λc4=>?_) (λc4=>?_)
 . refine ⟨(y1.t y2),?_⟩;have:t≠term0:=λe=>c4 (by rw [e]);simp [this]
 refine zap (0) (λk us w'=>us=[.int .i64 (k:Int)]/\Ext C w'/\(True)) (0) oo ⟨sS,xrf C,trivial⟩ ?_;rintro k _ _ gb _ ⟨hu,y3,_⟩;try replace hu:=zbv hu
 try rw [hu]
 try clear hu
 refine zaa zbL<|zab zd7 (za0 D) (y2.t y3) λ_ g5=>?_;have g9:=zak g5;refine zae zio g5<|zaf<|br (λc5=>?_) (λc5=>?_)
 . have y4:=zag gb;exact absurd c5 (by have:(term0.kids.length:Int)=0:=rfl;omega)
 refine ⟨(y1.t (y2.t y3)),?_⟩;have:t=term0:=DTerm.ext_iff.2 ⟨qai.1 c1,qai.1 c2,qai.1 c3,qan (by have:(term0.kids.length:Int)=0:=rfl;omega)⟩;simp [this]
def plc (s:ByteArray):List ByteArray->Int
 | []=>-1
 | x :: l=>if x=s then 0 else if plc s l<0 then -1 else plc s l+1
theorem zlr {s:ByteArray} {l:List ByteArray} (h:s∉l):plc s l=-1:=by
 induction l with
 | nil=>rfl
 | cons x l ih=>
   simp only [qaa,not_or] at h;rw [plc,qab (λe=>h.1 e.symm),ih h.2];rfl
theorem zoe {s:ByteArray}:∀ {l:List ByteArray} {k:Nat} (hk:k<l.length),s∉l.take k->l[k]=s->plc s l=k
 | x :: l,0,_,_,h=>by simp only [qb3] at h;rw [plc,qah h];rfl
 | x :: l,k+1,hk,hn,h=>by
   simp only [qcm,qaa,not_or] at hn;have ih:=zoe (by simpa using hk) hn.2 (by simpa using h);rw [plc,qab (λe=>hn.1 e.symm),ih,qab oo];omega
theorem zl8 {s:ByteArray} {l:List ByteArray}:-1<=plc s l/\plc s l<l.length:=by
 induction l with
 | nil=>simp [plc]
 | cons x l ih=>
   rw [plc];split
   . simp only [qak];omega
   split<;>simp only [qak]<;>omega
theorem zgb {s:ByteArray} {l:List ByteArray}:0<=plc s l↔s∈l:=by
 induction l with
 | nil=>simp [plc]
 | cons x l ih=>
   rw [plc];split
   . rename_i h;simp [h]
   rename_i h;rw [qaa,<-ih];have:¬s=x:=λe=>h e.symm;simp only [this,false_or];split<;>omega
def zdd {l:List ByteArray} {y:ByteArray} (hk:k<l.length) (h:y∉l.take k) (c:¬l[k]=y):y∉l.take (k+1):=by
 rw [tk hk];simp only [qae,qaa,qad,qaq,not_or];exact ⟨h,λe=>c e.symm⟩
def zcL {l:(List ByteArray)} {s:ByteArray}  (h0:Is W0 v0 l) (e0:Ext W0 w)  :
   CALL tp 145 [v0,.string s] w λr w'=>Ext w w'/\(r=.int .i64 (plc s l)):=by
 refine co (g:=kf [] [(2,524272,[5])] []) Tryz.func145 ?_;refine zap (l.length) (λk us w'=>us=[.int .i64 (k:Int)]/\Ext w w'/\(s∉l.take k)) (0) oo ⟨sS,xrf w,sS⟩ ?_;rintro k m2 _ _ _ ⟨hu,y1,C⟩;try replace hu:=zbv hu
 try rw [hu]
 try clear hu
 have:=zak h0;refine zae u24 h0<|zaf<|br (λc1=>?_) (λc1=>?_)
 . refine zad u24 ty9 h0 oo λ_ _ g0=>?_;refine zar ty9 g0 (e0.t y1) λ_=>zaQ<|br (λc2=>?_) (λc2=>?_)
   . refine ⟨y1,?_⟩;rw [zoe oo C c2]
   refine zau<|⟨m2-1,oo,k+1,oo,sS,y1,?_⟩;exact zdd oo C c2
 refine ⟨y1,?_⟩;rw [qaf oo] at C;rw [zlr C]
def zgT {l:(List ByteArray)} {s:ByteArray}  (h0:Is W0 v0 l) (e0:Ext W0 w)  :
   CALL tp 169 [v0,.string s] w λr w'=>Ext w w'/\(r=.int .i64 (plc s l)):=by
 refine co (g:=kf [] [(2,524080,[8])] []) Tryz.func169 ?_;have:=zak h0;refine zae u24 h0<|zap (l.length) (λk us w'=>us=[.int .i64 (k:Int)]/\Ext w w'/\(s∉l.take k)) (0) oo ⟨sS,xrf w,sS⟩ ?_;rintro k m2 _ _ _ ⟨hu,y1,C⟩;try replace hu:=zbv hu
 try rw [hu]
 try clear hu
 refine zaf<|br (λc1=>?_) (λc1=>?_)
 . refine zad u24 ty9 h0 oo λ_ _ g0=>?_;refine zar ty9 g0 (e0.t y1) λ_=>zaQ<|br (λc2=>?_) (λc2=>?_)
   . refine ⟨y1,?_⟩;rw [zoe oo C c2.symm]
   refine zau<|⟨m2-1,oo,k+1,oo,sS,y1,?_⟩;exact zdd oo C (λe=>c2 e.symm)
 refine ⟨y1,?_⟩;rw [qaf oo] at C;rw [zlr C]
def zde {l:(List ByteArray)} {s:ByteArray}  (h0:Is W0 v0 l) (e0:Ext W0 w)  :
   CALL tp 115 [v0,.string s] w λr w'=>Ext w w'/\(r=.bool (decide (s∈l))):=by
 refine co (g:=kf [] [] []) Tryz.func115 ?_;refine (zgT h0 e0).mono ?_;rintro _ _ ⟨y1,rfl⟩;refine zb9<|⟨y1,?_⟩;simp [zgb]
def zl9 {l:(List ByteArray)} {s:ByteArray}  (h0:Is W0 v0 l) (e0:Ext W0 w)  :
   CALL tp 124 [v0,.string s] w λr w'=>Ext w w'/\(r=.bool (decide (s∈l))):=by
 refine co (g:=kf [] [(2,262128,[5])] []) Tryz.func124 ?_;refine zap (l.length) (λk us w'=>us=[.int .i64 (k:Int)]/\Ext w w'/\(s∉l.take k)) (0) oo ⟨sS,xrf w,sS⟩ ?_;rintro k m2 _ _ _ ⟨hu,y1,C⟩;try replace hu:=zbv hu
 try rw [hu]
 try clear hu
 have g0:=zak h0;refine zae u24 h0<|zaf<|br (λc1=>?_) (λc1=>?_)
 . refine zad u24 ty9 h0 oo λ_ _ g1=>?_;refine zar ty9 g1 (e0.t y1) λ_=>zaQ<|br (λc2=>?_) (λc2=>?_)
   . refine ⟨y1,?_⟩;have:s∈l:=c2▸qac _;simp [this]
   refine zau<|⟨m2-1,oo,k+1,oo,sS,y1,?_⟩;exact zdd oo C c2
 refine ⟨y1,?_⟩;rw [qaf oo] at C;simp [C]
def ziK {l:(List ByteArray)} {m:Int}  (h0:Is W0 v0 l) (e0:Ext W0 w)  :
   CALL tp 164 [v0,.int .i64 m] w λr w'=>Ext w w'/\(r=.bool (decide ((l.length:Int)<=m)&&l.all zbD)):=by
 refine co (g:=kf [] [(4,2089040,[13])] []) Tryz.func164 ?_;have:=zak h0;refine zae u24 h0<|zcO<|br (λc1=>?_) (λc1=>?_)
 . refine ⟨xrf w,?_⟩;simp [show ¬(l.length:Int)<=m by omega]
 have:=zak h0;refine zae u24 h0<|zap (l.length) (λk us w'=>us=[.int .i64 (k:Int)]/\Ext w w'/\((l.take k).all zbD=true)) (0) oo ⟨sS,xrf w,sS⟩ ?_;rintro k m4 _ _ _ ⟨hu,y1,g0⟩;try replace hu:=zbv hu
 try rw [hu]
 try clear hu
 refine zaf<|br (λc2=>?_) (λc2=>?_)
 . refine zad u24 ty9 h0 oo λ_ _ g1=>?_;refine zar ty9 g1 (e0.t y1) λ_=>?_;refine (zjm ).mono ?_;rintro _ _ ⟨y2,rfl⟩;refine za2<|zbX (λc3=>?_) (λc3=>?_)
   . refine ⟨(y1.t y2),?_⟩;simp only [zjp (p:=zbD) (l:=l) (k:=k) oo (by simpa using c3),qbu]
   have:=zak h0;refine zau<|⟨m4-1,oo,k+1,oo,sS,(y1.t y2),?_⟩;exact zlp oo g0 (by simpa using c3)
 refine ⟨y1,?_⟩;simp [zlq (p:=zbD) (l:=l) oo g0,show (l.length:Int)<=m by omega]
def zfH {l:(List ByteArray)} {m:Int}  (h0:Is W0 v0 l) (e0:Ext W0 w)  :
   CALL tp 143 [v0,.int .i64 m] w λr w'=>Ext w w'/\(r=.bool (decide ((l.length:Int)<=m)&&l.all zbD)):=by
 refine co (g:=kf [] [(4,4193328,[5])] []) Tryz.func143 ?_;have:=zak h0;refine zae u24 h0<|zcO<|br (λc1=>?_) (λc1=>?_)
 . refine ⟨xrf w,?_⟩;simp [show ¬(l.length:Int)<=m by omega]
 refine zap (l.length) (λk us w'=>us=[.int .i64 (k:Int)]/\Ext w w'/\((l.take k).all zbD=true)) (0) oo ⟨sS,xrf w,sS⟩ ?_;rintro k m4 _ _ _ ⟨hu,y1,g0⟩;try replace hu:=zbv hu
 try rw [hu]
 try clear hu
 have:=zak h0;refine zae u24 h0<|zaf<|br (λc2=>?_) (λc2=>?_)
 . refine zad u24 ty9 h0 oo λ_ _ g1=>?_;refine zar ty9 g1 (e0.t y1) λ_=>?_;refine (specIsName_ok ).mono ?_;rintro _ _ ⟨y2,rfl⟩;refine za2<|zbX (λc3=>?_) (λc3=>?_)
   . refine ⟨(y1.t y2),?_⟩;simp only [zjp (p:=zbD) (l:=l) (k:=k) oo (by simpa using c3),qbu]
   refine zau<|⟨m4-1,oo,k+1,oo,sS,(y1.t y2),?_⟩;exact zlp oo g0 (by simpa using c3)
 refine ⟨y1,?_⟩;simp [zlq (p:=zbD) (l:=l) oo g0,show (l.length:Int)<=m by omega]
instance decNodup:∀ (l:List ByteArray),Decidable l.Nodup
 | []=>isTrue qav
 | x :: l=>match decMemBA x l,decNodup l with
   | isFalse h,isTrue h'=>isTrue (qaP.2 ⟨h,h'⟩)
   | isTrue h,_=>isFalse λe=>(qaP.1 e).1 h
   | _,isFalse h=>isFalse λe=>h (qaP.1 e).2
def zGr {l:List ByteArray} (hk:k<l.length) (h:l[k]∈l.drop (k+1)):¬l.Nodup:=λhn=>by
 have e:l=l.take k++(l[k] :: l.drop (k+1)):=by simp
 rw [e,qas] at hn;exact (qaP.1 hn.2.1).1 h
def zEu {l:List ByteArray} (hk:k<l.length) (h:l[k]∈l.take k):¬l.Nodup:=λhn=>by
 have e:l=l.take k++(l[k] :: l.drop (k+1)):=by simp
 rw [e,qas] at hn;exact hn.2.2 _ h _ List.mem_cons_self rfl
def zma {l:List ByteArray} (hk:k<l.length) (h:(l.take k).Nodup) (c:l[k]∉l.take k):(l.take (k+1)).Nodup:=by
 rw [tk hk,qas];refine ⟨h,sS,λ_ ha _ hb e=>?_⟩;simp only [qaa,qad,qaq] at hb;subst e;subst hb;exact c ha
theorem ziv:∀ {l:List ByteArray},(∀ (k:Nat) (hk:k<l.length),l[k]∉l.drop (k+1))->l.Nodup
 | [],_=>qav
 | x :: l,h=>qaP.2 ⟨h 0 sS,ziv λk hk=>h (k+1) (by simpa using hk)⟩
def ziL {l:(List ByteArray)}  (h0:Is W0 v0 l) (e0:Ext W0 w)  :
   CALL tp 165 [v0] w λr w'=>Ext w w'/\(r=.bool (decide (¬l.Nodup))):=by
 refine co (g:=kf [] [(2,524188,[7])] []) Tryz.func165 ?_;have:=zak h0;refine zae u24 h0<|zap (l.length) (λk us w'=>us=[.int .i64 (k:Int)]/\Ext w w'/\(∀ (j:Nat) (hj:j<l.length),j<k->l[j]∉l.drop (j+1))) (0) oo ⟨sS,xrf w,λj hj h=>oo⟩ ?_;rintro k m2 _ _ _ ⟨hu,y1,g0⟩;try replace hu:=zbv hu
 try rw [hu]
 try clear hu
 have:=zak h0;refine zaf<|br (λc1=>?_) (λc1=>?_)
 . refine zad u24 ty9 h0 oo λ_ _ g1=>?_;refine zar ty9 g1 (e0.t y1) λ_=>zau<|zfn u24 ty9 h0 oo oo λ_ g2=>?_;refine (zde g2 (e0.t y1)).mono ?_;rintro _ _ ⟨y2,rfl⟩;refine br (λc2=>?_) (λc2=>?_)
   . refine ⟨(y1.t y2),?_⟩;simp [zGr oo c2]
   refine zau<|⟨m2-1,oo,k+1,oo,sS,(y1.t y2),?_⟩;intro j hj _;by_cases h:j=k
   . subst h;exact c2
   exact g0 j hj oo
 refine ⟨y1,?_⟩;simp [ziv λj hj=>g0 j hj oo]
def zeH {l:(List ByteArray)}  (h0:Is W0 v0 l) (e0:Ext W0 w)  :
   CALL tp 144 [v0] w λr w'=>Ext w w'/\(r=.bool (decide (¬l.Nodup))):=by
 refine co (g:=kf [] [(2,262140,[3])] [(4,[0,1,2,3,4,5,6,7],0)]) Tryz.func144 ?_;refine zap (l.length) (λk us w'=>us=[.int .i64 (k:Int)]/\Ext w w'/\((l.take k).Nodup)) (0) oo ⟨sS,xrf w,sS⟩ ?_;rintro k m2 _ g0 _ ⟨hu,y1,C⟩;try replace hu:=zbv hu
 try rw [hu]
 try clear hu
 have:=zak h0;have:=zak h0;refine zae u24 h0<|zaf<|br (λc1=>?_) (λc1=>?_)
 . have y2:=zag g0;refine ziJ u24 ty9 h0 oo oo λ_ g1=>zad u24 ty9 h0 oo λ_ _ g2=>zar ty9 g2 (e0.t (y1.t y2)) λ_=>?_;refine (zl9 g1 (e0.t (y1.t y2))).mono ?_;rintro _ _ ⟨y3,rfl⟩;refine br (λc2=>?_) (λc2=>?_)
   . refine ⟨(y1.t (y2.t y3)),?_⟩;simp [zEu oo c2]
   refine zau<|⟨m2-1,oo,k+1,oo,sS,(y1.t (y2.t y3)),?_⟩;exact zma oo C c2
 refine ⟨y1,?_⟩;rw [qaf oo] at C;simp [C]
def zxn (l:List ByteArray) (s:ByteArray):List ByteArray:=if s∈l then l else l++[s]
def zBe (l:List ByteArray) (s:ByteArray):(zxn l s).length<=l.length+1:=by unfold zxn;split<;>simp
def readsT:Nat->DTerm->List ByteArray->List ByteArray
 | n,t,l=>if t.kind=2 then zxn l t.name else match n with | 0=>l | m+1=>t.kids.foldl (λl k=>readsT m k l) l
def zeI (n:Nat) (t:DTerm) (l:List ByteArray):readsT n t l=if t.kind=2 then zxn l t.name else match n with | 0=>l | m+1=>t.kids.foldl (λl k=>readsT m k l) l:=readsT.eq_def n t l
def zof {α β:Type} (f:β->α->β) (b:β) {l:List α} {k:Nat} (hk:k<l.length):(l.take (k+1)).foldl f b=f ((l.take k).foldl f b) l[k]:=by
 rw [tk hk,qcA];rfl
theorem zmb {t:DTerm} (h:zbj n t=true) (h2:¬t.kind=2):t.kids=[]\/∃ m,n=m+1/\t.kids.length<=2/\∀ k∈t.kids,zbj m k=true:=by
 by_cases h1:t.kind=1
 . rw [zfp h1] at h;simp only [qar,qau] at h;exact .inl (qan oo)
 rw [zbJ h1 h2] at h;simp only [qar,qau] at h;obtain ⟨⟨_,h3⟩,h4⟩:=h;cases n with
 | zero=>simp at h4
 | succ m=>
   refine .inr ⟨m,rfl,?_,λk hk=>qaM.1 h4 k hk⟩;split at h3<;>omega
theorem zkg:∀ (n:Nat) (t:DTerm) (l:List ByteArray),zbj n t=true->(readsT n t l).length<=l.length+2^n
 | n,t,l,h=>by
   rw [zeI];have:1<=2^n:=qct;split
   . have:=zBe l t.name;omega
   rename_i h2;rcases zmb h h2 with hk | ⟨m,rfl,hk,hall⟩
   . cases n with
     | zero=>simp
     | succ m=>simp [hk]
   show (t.kids.foldl (λl k=>readsT m k l) l).length<=_
   have key:∀ (ks:List DTerm) (l:List ByteArray),(∀ k∈ks,zbj m k=true)->(ks.foldl (λl k=>readsT m k l) l).length<=l.length+ks.length*2^m:=by
     intro ks
     induction ks with
     | nil=>intro l _;simp
     | cons k ks ih=>
       intro l g0;rw [qbt,qak,qbp,qbN];have h1:=ih (readsT m k l) λx hx=>g0 x (by simp [hx]);have h2:=zkg m k l (g0 k sS);omega
   have h1:=key t.kids l hall;have h2:t.kids.length*2^m<=2*2^m:=qbg _ hk;rw [qdh];omega
def zuy {l:List ByteArray} {s:ByteArray} {K:VW} (hr:RowF F 9 w v l) (hn:F.Nodup) (hs:s.size<=maxLen) (hl:l.length<=1000000)
   (k:∀ v' w',Chg F w w'->(∃ F',RowF F' 9 w' v' (l++[s])/\F'.Nodup/\∀ b∈F',b∈F\/w.heap.size<=b)->K v' w') :
   OP tp (Instr.buildSlice 24 1 #[(0,.string s)]) w λx w1=>OP tp (Builtin.append_ #[24,24] ty [v,x].toArray) w1 K:=by
 refine zjo (α:=ByteArray) (x:=s) (F:=[]) u24 ty9 z9 qd ⟨⟨_,⟨rfl,rfl,hs⟩,rfl⟩,qav,Wr.nil _⟩ λw1 g0 g2=>?_;obtain ⟨_,_,Fi,xs,he,_,_,hc,h4⟩:=zcE g2.is;have g3:=Cells.flat (xs:=xs) hc;subst g3;refine zfD (α:=ByteArray) (m:=[s]) u24 ty9 zc9 (hr.ext g0) hn he hc (.inr ?_) (Wr.nil _) (by simpa using hn) (by simp only [qak,qaC,zaj];omega) (by simp only [qak,qaC];omega) λv' w' F' g4 _ g5 g9 gb=>?_
 . rcases h4 with h4 | ⟨b,o,ha,gc,_⟩
   . simp at h4
   exact ⟨b,o,ha,gc⟩
 have g1:∀ c∈v.ownBlock.toList,c∈F:=λc hc=>by
   obtain ⟨xs,Fi,_,_,rfl,_⟩:=hr;simp only [qae];exact .inl hc
 refine k v' w' ((Ext.chg F g0).trans (g4.mono g1)) ⟨F',g5,g9,λb hb=>?_⟩;rcases gb b hb with h | h | h
 . exact .inl h
 . simp at h
 exact .inr (qat g0.size h)
def zv7 {l:List ByteArray} {s:ByteArray} (hr:RowF F 9 w v l) (hn:F.Nodup) (hs:s.size<=maxLen) (hl:l.length<=1000000) :
   CALL tp 232 [v,.string s] w λr w'=>Chg F w w'/\∃ F',RowF F' 9 w' r (zxn l s)/\F'.Nodup/\∀ b∈F',b∈F\/w.heap.size<=b:=by
 refine co (g:=kf [] [] []) Tryz.func232 ?_;refine (zde hr.own.is (xrf w)).mono ?_;rintro _ _ ⟨C,rfl⟩;refine br (λc1=>?_) (λc1=>?_)
 . exact ⟨Ext.chg F C,F,by unfold zxn;rw [qah c1];exact hr.ext C,hn,λb hb=>.inl hb⟩
 refine zuy (hr.ext C) hn hs hl λ_ w' hc ⟨F',h1,h2,h3⟩=>⟨(Ext.chg F C).trans hc,F',by unfold zxn;rw [qab c1];exact h1,h2,λb hb=>?_⟩;rcases h3 b hb with h | h
 . exact .inl h
 exact .inr (qat C.size h)
def zpA (F:List Nat) (w:wD) (l:List ByteArray) (r:vL) (w':wD):Prop:=Chg F w w'/\∃ F',RowF F' 9 w' r l/\F'.Nodup/\∀ b∈F',b∈F\/w.heap.size<=b
def zHl (n:Nat):Prop:=∀ {w W:wD} {v u:vL} {t:DTerm} {l:List ByteArray} {F:List Nat},Is W v t->Ext W w->RowF F 9 w u l->F.Nodup->(∀ b∈F,W.heap.size<=b)->zbj n t=true->l.length+2^n<=1000 ->
 CALL tp 175 [u,v] w (zpA F w (readsT n t l))
def zHm (n:Nat):Prop:=∀ {w W:wD} {v u:vL} {t:DTerm} {l:List ByteArray} {F:List Nat},Is W v t->Ext W w->RowF F 9 w u l->F.Nodup->(∀ b∈F,W.heap.size<=b)->zbj n t=true->l.length+2^n<=1000 ->
 CALL tp 188 [v,u] w (zpA F w (readsT n t l))
def zls {t:DTerm} {l:List ByteArray} (h:t.kind=2):readsT n t l=zxn l t.name:=by rw [zeI,qah h]
def zmc {t:DTerm} {l:List ByteArray} (h:zbj n t=true) (h2:¬t.kind=2) (hl:l.length+2^n<=1000) :
   ∃ m,(t.kids=[]\/n=m+1)/\readsT n t l=t.kids.foldl (λl k=>readsT m k l) l/\(∀ k∈t.kids,zbj m k=true)/\∀ k,k<t.kids.length->((t.kids.take k).foldl (λl k=>readsT m k l) l).length+2^m<=1000:=by
 rcases zmb h h2 with hk | ⟨m,rfl,hk,g0⟩
 . refine ⟨0,.inl hk,?_,by simp [hk],by simp [hk]⟩;rw [zeI,qab h2,hk];cases n<;>rfl
 refine ⟨m,.inr rfl,by rw [zeI,qab h2],g0,λk _=>?_⟩;rw [qdh] at hl
 have g2:∀ (ks:List DTerm) (l:List ByteArray),(∀ k∈ks,zbj m k=true)->(ks.foldl (λl k=>readsT m k l) l).length<=l.length+ks.length*2^m:=by
   intro ks
   induction ks with
   | nil=>intro l _;simp
   | cons k ks ih=>
     intro l g1;rw [qbt,qak,qbp,qbN];have h1:=ih (readsT m k l) λx hx=>g1 x (by simp [hx]);have h2:=zkg m k l (g1 k sS);omega
 have h1:=g2 (t.kids.take k) l λx hx=>g0 x (qbh hx);have h3:(t.kids.take k).length<=1:=by simp;omega
 have:(t.kids.take k).length*2^m<=1*2^m:=qbg _ h3;omega
def zuz {t:DTerm} (h:AtB W w b o t):AtB W w b (o+3) t.kids:=by
 have h':AtB W w b o t.tup:=by obtain ⟨F,cs,hr,ha⟩:=h;exact ⟨F,cs,ziA.1 hr,ha⟩
 exact h'.snd.snd.snd
def zpB (ih:∀ m,m+1=n->zHl m):zHl n:=by
 intro w W _ u t l F h e hr hn hF ht hl;refine co (g:=kf [] [(4,33423425,[0,17])] []) Tryz.func175 ?_;refine zax zbl rfl h e λw1 I hA hV=>zaa zdK<|zac ty3 (zbT hA) (xrf w1) λ_=>zai<|br (λc1=>?_) (λc1=>?_)
 . refine zaa zdX ?_;refine zar ty9 (zb3 hA) (xrf w1) λhS=>?_;have:1<=2^n:=qct;refine (zv7 (hr.ext I) hn hS oo).mono ?_;rintro r w2 ⟨hc,F',h1,h2,h3⟩;refine ⟨(Ext.chg F I).trans hc,F',by rw [zls c1];exact h1,h2,λb hb=>?_⟩;rcases h3 b hb with h | h
   . exact .inl h
   exact .inr (qat I.size h)
 obtain ⟨m,hm,he,gg,g1⟩:=zmc ht c1 hl;refine zaa zbL<|zfG zd7 (zuz (zga h hV rfl)) (e.trans I) (xrf w1) λ_ g2=>zae zio g2 ?_;have:=zak g2;refine zap t.kids.length (λk us w'=>∃ q,us=[q,.int .i64 (k:Int)]/\zpA F w ((t.kids.take k).foldl (λl k=>readsT m k l) l) q w') 0 (z0 _) ⟨u,rfl,Ext.chg F I,F,by simpa using hr.ext I,hn,λb hb=>.inl hb⟩ ?_;rintro k mm _ w2 _ ⟨q,hu,C,F2,g3,gb,g0⟩;obtain ⟨gh,gi⟩:=zcZ hu;try rw [gh]
 try rw [gi]
 have gj:∀ b∈F2,W.heap.size<=b:=λb hb=>by
   rcases g0 b hb with h | h
   . exact hF b h
   exact qat e.size h
 have g4:Ext W w2:=e.chg_trans C hF;refine zaf<|br (λc2=>?_) (λc2=>?_)
 . have hk:k<t.kids.length:=oo
   obtain ⟨m',rfl⟩:∃ m',n=m'+1:=by
     rcases hm with h | h
     . rw [h] at hk;simp at hk
     exact ⟨m,h⟩
   have gl:m'=m:=by
     rcases hm with h | h
     . rw [h] at hk;simp at hk
     omega
   subst gl;refine zad zio zbl g2 hk λb _ gp=>zab zbl gp g4 λ_ gc=>zcP zv5 rfl zbl rfl gc g4 λw3 D _ gq=>zbr gq (xrf w3) ?_;refine (ih m' rfl gc (g4.t D) (g3.ext D) gb gj (gg _ (qac hk)) (g1 k hk)).mono ?_;rintro r _ ⟨O,F4,gr,gs,gt⟩;refine zau<|⟨mm-1,oo,k+1,oo,r,rfl,?_⟩;refine ⟨?_,F4,by rw [zof _ _ hk];exact gr,gs,λb hb=>?_⟩
   . -- the blocks of F alone have g5
     refine ⟨O.os.trans (D.os.trans C.os),O.tape.trans (D.tape.trans C.tape),O.output.trans (D.output.trans C.output),qat C.size (qat D.size O.size),λb hb gd=>?_⟩;have gf:b<w2.heap.size:=qap hb C.size
     have g9:b∉F2:=λhm=>by
       rcases g0 b hm with h | h
       . exact gd h
       omega
     rw [O.block b (qap gf D.size) g9,D.heap gf,C.block b hb gd]
   rcases gt b hb with h | h
   . exact g0 b h
   have:=D.size;have:=C.size;exact .inr oo
 rw [qaf oo,<-he] at g3;exact ⟨C,F2,g3,gb,g0⟩
theorem zmd:∀ n,zHl n
  | n=>zpB λm hm=>zmd m
termination_by n=>n
decreasing_by omega
def zpC (ih:∀ m,m+1=n->zHm m):zHm n:=by
 intro w W _ u t l F h e hr hn hF ht hl;refine co (g:=kf [] [(3,16776240,[5]),(9,8795556151362,[1,6])] [(5,[0,1,2,3,4,5,6],0)]) Tryz.func188 ?_;have g0:=zak hr.own.is;have:1<=2^n:=qct;refine zax zbl rfl h e λw1 D hA hV=>?_;have gg:w.heap.size<w1.heap.size:=hV.lt;have gh:w.heap.size∉F:=λhm=>by have:=hr.lt _ hm;omega
 refine zaa zdK<|zac ty3 (zbT hA) (xrf w1) λ_=>zai<|br (λc1=>?_) (λc1=>?_)
 . have g1:=hr.ext D;refine zap l.length (λk us w'=>us=[.int .i64 (k:Int)]/\Ext w1 w'/\t.name∉l.take k) 0 (z0 _) ⟨rfl,xrf w1,sS⟩ ?_;rintro k mm uu w2 gi ⟨hu,O,I⟩;try replace hu:=zbv hu
   rw [hu];refine zae u24 g1.own.is<|zaf<|br (λc2=>?_) (λc2=>?_)
   . have hk:k<l.length:=oo;have U:=O.t (zag w2);refine zad u24 ty9 g1.own.is hk λb o g4=>zar ty9 g4 U λ_=>zaa zdX<|zar ty9 (zb3 hA) U λ_=>zaQ<|br (λc3=>?_) (λc3=>?_)
     . have hm:t.name∈l:=c3▸qac hk;refine ⟨Ext.chg F (D.t U),F,?_,hn,λb hb=>.inl hb⟩;rw [zls c1,zxn,qah hm];exact g1.ext U
     refine zau<|⟨mm-1,oo,k+1,oo,rfl,U,zdd hk I c3⟩
   rw [qaf oo] at I;have U:=O.t (zag w2)
   first
     | refine zaa zdX ?_
     | skip
   refine zar ty9 (zb3 hA) O λhS=>zuy (g1.ext O) hn hS oo λ_ w' hc ⟨F',h1,h2,h3⟩=>⟨(Ext.chg F (D.t O)).trans hc,F',by rw [zls c1,zxn,qab I];exact h1,h2,λb hb=>?_⟩;rcases h3 b hb with h | h
   . exact .inl h
   exact .inr (qat (D.t O).size h)
 obtain ⟨m,hm,he,gj,g0⟩:=zmc ht c1 hl;refine zap t.kids.length (λk us w'=>∃ q,us=[q,.int .i64 (k:Int)]/\zpA F w1 ((t.kids.take k).foldl (λl k=>readsT m k l) l) q w') 0 (z0 _) ⟨u,rfl,Chg.refl F w1,F,by simpa using hr.ext D,hn,λb hb=>.inl hb⟩ ?_;rintro k mm uu w2 gi ⟨q,hu,C,F2,g5,gb,g2⟩;obtain ⟨gl,gp⟩:=zcZ hu;try rw [gl]
 try rw [gp]
 have gq:∀ b∈F2,W.heap.size<=b:=λb hb=>by
   rcases g2 b hb with h | h
   . exact hF b h
   have:=e.size;have:=D.size;omega
 have g3:Ext W w2:=(e.trans D).chg_trans C hF;have gc:AtB W w2 w.heap.size 0 t:=(zga h hV rfl).keep (C.block _ gg gh);have g4:=gc.at g3;refine zaa zbL<|zab zd7 (za0 g4) (xrf w2) λ_ gd=>zae zio gd ?_;have:=zak gd;refine zaf<|br (λc2=>?_) (λc2=>?_)
 . have hk:k<t.kids.length:=oo
   obtain ⟨m',rfl⟩:∃ m',n=m'+1:=by
     rcases hm with h | h
     . rw [h] at hk;simp at hk
     exact ⟨m,h⟩
   have gr:m'=m:=by
     rcases hm with h | h
     . rw [h] at hk;simp at hk
     omega
   subst gr;refine zaa zbL<|zfG zd7 (zuz gc) g3 (xrf w2) λ_ gs=>zad zio zbl gs hk λb o gt=>zab zbl gt g3 λ_ gx=>?_;refine (ih m' rfl gx g3 g5 gb gq (gj _ (qac hk)) (g0 k hk)).mono ?_;rintro r _ ⟨V,F4,gy,gz,gC⟩;refine zau<|⟨mm-1,oo,k+1,oo,r,rfl,?_⟩;refine ⟨?_,F4,by rw [zof _ _ hk];exact gy,gz,λb hb=>?_⟩
   . refine ⟨V.os.trans C.os,V.tape.trans C.tape,V.output.trans C.output,qat C.size V.size,λb hb gf=>?_⟩;have gD:b<w2.heap.size:=qap hb C.size
     have g9:b∉F2:=λhm=>by
       rcases g2 b hm with h | h
       . exact gf h
       omega
     rw [V.block b gD g9,C.block b hb gf]
   rcases gC b hb with h | h
   . exact g2 b h
   have:=C.size;exact .inr oo
 rw [qaf oo,<-he] at g5;refine ⟨(Ext.chg F D).trans C,F2,g5,gb,λb hb=>?_⟩;rcases g2 b hb with h | h
 . exact .inl h
 exact .inr (qat D.size h)
theorem zme:∀ n,zHm n
  | n=>zpC λm hm=>zme m
termination_by n=>n
decreasing_by omega
def zb4 (t:DTerm):List ByteArray:=if zbj 6 t=true then readsT 6 t [] else []
def ztc (t:DTerm):(zb4 t).length<=64:=by
 unfold zb4;split
 . have:=zkg 6 t [] aA;simpa using this
 simp
def zBf {α:Type} [Rep α] (e:TypeId) (w:wD):RowF (α:=α) [] e w (.slice none 0 0) []:=⟨[],[],⟨sS,.inl ⟨rfl,rfl⟩⟩,⟨rfl,rfl⟩,rfl,Wr.nil _⟩
def zgc {t:DTerm} (h:Is W v t) (e:Ext W w):CALL tp 114 [v] w λr w'=>Ext w w'/\Is w' r (zb4 t):=by
 refine co (g:=kf [] [] []) Tryz.func114 ?_;refine zax zbl rfl h e λw1 g0 _ hV=>zbr hV (xrf w1) ?_;refine (zgS h (e.trans g0)).mono ?_;rintro _ _ ⟨g1,rfl⟩;refine za2<|zbX (λc=>?_) (λc=>?_)
 . refine ⟨g0.t g1,?_⟩;unfold zb4;rw [qab (by simpa using c)];exact zlS rfl
 have c:zbj 6 t=true:=by simpa using c
 refine zbr hV g1 ?_;refine (zmd 6 h ((e.trans g0).trans g1) (zBf _ _) qav sS c qd).mono ?_;rintro r _ ⟨hc,_,hr,_,_⟩;refine ⟨(g0.t g1).trans (Chg.ext hc),?_⟩;unfold zb4;rw [qah c];exact hr.own.is
def zeW {t:DTerm} (h:Is W v t) (e:Ext W w):CALL tp 123 [v] w λr w'=>Ext w w'/\Is w' r (zb4 t):=by
 refine co (g:=kf [] [] []) Tryz.func123 ?_;refine zax zbl rfl h e λw1 g1 _ hV=>zbr hV (xrf w1) ?_;refine (zc2 h (e.trans g1)).mono ?_;rintro _ _ ⟨g2,rfl⟩;refine za2<|zbX (λc=>?_) (λc=>?_)
 . refine zjg (α:=ByteArray) u24 ty9 λa w3 g0 g3=>?_;refine ⟨(g1.t g2).trans g0,?_⟩;unfold zb4;rw [qab (by simpa using c)];exact g3.is
 have c:zbj 6 t=true:=by simpa using c
 refine zbr hV g2<|zjg (α:=ByteArray) u24 ty9 λa w3 g0 g3=>?_;obtain ⟨_,hr,hn,hl⟩:=g3;have C:=(g1.t g2);refine (zme 6 h ((e.trans C).trans g0) hr hn (λb hb=>qat (e.trans C).size (hl b hb)) c qd).mono ?_;rintro r _ ⟨hc,_,g4,_,_⟩;refine ⟨(C.t g0).chg_trans hc (λb hb=>qat C.size (hl b hb)),?_⟩;unfold zb4;rw [qah c];exact g4.own.is
def zyA (l:List ByteArray):Nat:=l.length+sm ByteArray.size l
mutual
def wT:DTerm->Nat
  | .mk _ _ s ks=>s.size+wTs ks
def wTs:List DTerm->Nat
  | []=>0
  | t :: r=>1+wT t+wTs r
end
theorem zyB (l:List DTerm):wTs l=l.length+sm wT l:=by
 induction l with
 | nil=>simp [wTs,sm]
 | cons t l ih=>rw [wTs,ih];simp [sm];omega
def zEv (t:DTerm):wT t=t.name.size+wTs t.kids:=by cases t;rw [wT];rfl
def zHn (l:List DIns):Nat:=l.length+sm (λi=>wT i.term) l
def zjq (c:DCode):Nat:=zyA c.globals+zyA c.locks+zyA c.procs+c.entry.length+zHn c.ins
end Go.Proofs.YtkgiigmcbgifdaaGreat
