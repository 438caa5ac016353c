/-
  Parts of the proof, put together by program.
-/
import Derived.Test.YtcnglfeoglgebaaGreatPFnTop1
set_option maxRecDepth 20000
set_option linter.defProp false
set_option linter.unusedVariables false
set_option linter.unusedSimpArgs false
set_option linter.unusedSectionVars false
namespace Go.Sh
open Rep (rep)
inductive DTerm where
 | mk (kind num:Int) (name:ByteArray) (kids:List DTerm)
namespace DTerm
def kind:DTerm->Int | .mk k _ _ _=>k
def num:DTerm->Int | .mk _ n _ _=>n
def name:DTerm->ByteArray | .mk _ _ s _=>s
def kids:DTerm->List DTerm | .mk _ _ _ l=>l
def tup (t:DTerm):Int×Int×ByteArray×List DTerm:=(t.kind,t.num,t.name,t.kids)
end DTerm
def DTerm.eta (t:DTerm):DTerm.mk t.kind t.num t.name t.kids=t:=by cases t;rfl
def DTerm.ext_iff {x y:DTerm}:x=y↔(x.kind=y.kind/\x.num=y.num/\x.name=y.name/\x.kids=y.kids):=by
 constructor
 . intro h;rw [h];exact ⟨rfl,rfl,rfl,rfl⟩
 rintro ⟨h1,h2,h3,h4⟩;rw [<-DTerm.eta x,<-DTerm.eta y,h1,h2,h3,h4]
theorem DTerm.kid_lt {t k:DTerm} (h:k∈t.kids):SizeOf.sizeOf k<SizeOf.sizeOf t:=by
 cases t with
 | mk a b c l=>
   have:k∈l:=h;have:=qcu this;simp only [DTerm.mk.sizeOf_spec];omega
theorem DTerm.ind {p:DTerm->Prop} (h:∀ t,(∀ k∈t.kids,p k)->p t) (t:DTerm):p t:=
  h t λk hk=>DTerm.ind h k
termination_by SizeOf.sizeOf t
decreasing_by exact DTerm.kid_lt hk
mutual
def DTerm.beq:DTerm->DTerm->Bool
  | .mk a b c l,.mk a' b' c' l'=>decide (a=a')&&decide (b=b')&&decide (c=c')&&DTerm.beqL l l'
def DTerm.beqL:List DTerm->List DTerm->Bool
  | [],[]=>true
  | x :: l,y :: m=>DTerm.beq x y&&DTerm.beqL l m
  | _,_=>false
end
mutual
theorem DTerm.beq_iff:∀ (x y:DTerm),DTerm.beq x y=true↔x=y
  | .mk a b c l,.mk a' b' c' l'=>by
    simp only [DTerm.beq,qap,decide_eq_true_eq,DTerm.mk.injEq,DTerm.beqL_iff l l',and_assoc]
theorem DTerm.beqL_iff:∀ (x y:List DTerm),DTerm.beqL x y=true↔x=y
  | [],[]=>by simp [DTerm.beqL]
  | [],y :: m=>by simp [DTerm.beqL]
  | x :: l,[]=>by simp [DTerm.beqL]
  | x :: l,y :: m=>by simp only [DTerm.beqL,qap,DTerm.beq_iff x y,DTerm.beqL_iff l m,qbf]
end
instance:DecidableEq DTerm:=λx y=>decidable_of_iff _ (DTerm.beq_iff x y)
mutual
def zrZ:DTerm->List Nat->World->List Value->Prop
  | .mk k n s ks,F,w,cs=>∃ a cap Fi xs,cs=[.int .i64 k,.int .i64 n,.string s,.slice a ks.length cap]/\I64 k/\I64 n/\s.size<=maxLen/\ks.length<=cap/\cap<=maxLen/\zf4 ks Fi w xs /\
    ((ks=[]/\F=[])\/∃ b o,a=some ⟨b,o,none⟩/\F=b :: Fi/\w.rangeAt b o xs/\b<w.heap.size)
def zf4:List DTerm->List Nat->World->List Value->Prop
  | [],F,_,xs=>F=[]/\xs=[]
  | y :: ys,F,w,xs=>∃ F1 F2 c1 c2,F=F1++F2/\xs=c1++c2/\zrZ y F1 w c1/\zf4 ys F2 w c2
end
def zzD {t:DTerm} {F:List Nat} {w:World} {cs:List Value} (h:zrZ t F w cs):cs.length=4:=by
 cases t;rw [zrZ] at h;obtain ⟨a,cap,Fi,xs,rfl,_⟩:=h;rfl
def zzE {t:DTerm} {F:List Nat} {w:World} {cs:List Value} (h:zrZ t F w cs):∀ v∈cs,v.oneCell'=true:=by
 cases t;rw [zrZ] at h;obtain ⟨a,cap,Fi,xs,rfl,_⟩:=h;intro v hv;simp only [qaa,qac,or_false] at hv;rcases hv with rfl | rfl | rfl | rfl<;>rfl
mutual
theorem zp1:∀ (t:DTerm) {F:List Nat} {w w':World} {cs:List Value},zrZ t F w cs->(∀ b∈F,w'.heap[b]?=w.heap[b]?)->zrZ t F w' cs
  | .mk k n s ks,F,w,w',cs,h,hk=>by
    rw [zrZ] at h ⊢;obtain ⟨a,cap,Fi,xs,hcs,i1,i2,i3,h1,h2,hc,h4⟩:=h;rcases h4 with ⟨rfl,rfl⟩ | ⟨b,o,ha,hF,hr,hb⟩
    . exact ⟨a,cap,Fi,xs,hcs,i1,i2,i3,h1,h2,by rw [zf4] at hc ⊢;exact hc,.inl ⟨rfl,rfl⟩⟩
    subst hF;have hbb:=hk b sS;refine ⟨a,cap,Fi,xs,hcs,i1,i2,i3,h1,h2,zlz ks hc λc hc=>hk c (by simp [hc]),.inr ⟨b,o,ha,rfl,zbo hr hbb,?_⟩⟩;rcases qaA b (Array.size (World.heap w')) with h' | h'
    . exact h'
    rw [Array.getElem?_eq_none h'] at hbb;simp [Array.getElem?_eq_getElem hb] at hbb
theorem zlz:∀ (l:List DTerm) {F:List Nat} {w w':World} {cs:List Value},zf4 l F w cs->(∀ b∈F,w'.heap[b]?=w.heap[b]?)->zf4 l F w' cs
  | [],F,w,w',cs,h,_=>by rw [zf4] at h ⊢;exact h
  | y :: ys,F,w,w',cs,h,hk=>by
    rw [zf4] at h ⊢;obtain ⟨F1,F2,c1,c2,rfl,rfl,h1,h2⟩:=h;exact ⟨F1,F2,c1,c2,rfl,rfl,zp1 y h1 λb hb=>hk b (by simp [hb]),zlz ys h2 λb hb=>hk b (by simp [hb])⟩
end
mutual
theorem zwx:∀ (t:DTerm) {F:List Nat} {w:World} {cs:List Value},zrZ t F w cs->∀ b∈F,b<w.heap.size
  | .mk k n s ks,F,w,cs,h,c,hm=>by
    rw [zrZ] at h;obtain ⟨a,cap,Fi,xs,hcs,i1,i2,i3,h1,h2,hc,h4⟩:=h;rcases h4 with ⟨rfl,rfl⟩ | ⟨b,o,ha,hF,hr,hb⟩
    . cases hm
    subst hF;rcases qaa.1 hm with rfl | hm
    . exact hb
    exact zp2 ks hc c hm
theorem zp2:∀ (l:List DTerm) {F:List Nat} {w:World} {cs:List Value},zf4 l F w cs->∀ b∈F,b<w.heap.size
  | [],F,w,cs,h,c,hm=>by rw [zf4] at h;rw [h.1] at hm;cases hm
  | y :: ys,F,w,cs,h,c,hm=>by
    rw [zf4] at h;obtain ⟨F1,F2,c1,c2,rfl,rfl,h1,h2⟩:=h;rcases qae.1 hm with hm | hm
    . exact zwx y h1 c hm
    exact zp2 ys h2 c hm
end
instance:Rep DTerm where
 size:=4
 agg:=true
 rep F w cs x:=zrZ x F w cs
 pos:=by decide
 sz h:=by cases h
 len h:=zzD h
 one h:=zzE h
 keep h hk:=zp1 _ h hk
 lt h:=zwx _ h
theorem ziR {w:World}:∀ {l:List DTerm} {F:List Nat} {xs:List Value},zf4 l F w xs↔Cells F w xs l
 | [],F,xs=>by rw [zf4];exact Iff.rfl
 | y :: ys,F,xs=>by
   rw [zf4];constructor
   . rintro ⟨F1,F2,c1,c2,h1,h2,h3,h4⟩;exact ⟨F1,F2,c1,c2,h1,h2,h3,ziR.1 h4⟩
   rintro ⟨F1,F2,c1,c2,h1,h2,h3,h4⟩;exact ⟨F1,F2,c1,c2,h1,h2,h3,ziR.2 h4⟩
def zih {w:World} {F:List Nat} {cs:List Value} {t:DTerm}:rep F w cs t↔rep F w cs t.tup:=by
 obtain ⟨k,n,s,ks⟩:=t;show zrZ _ F w cs↔_;rw [zrZ];constructor
 . rintro ⟨a,cap,Fi,xs,rfl,i1,i2,i3,h1,h2,hc,h4⟩
   refine ⟨[],F,[.int .i64 k],_,rfl,rfl,⟨rfl,rfl,i1⟩,[],F,[.int .i64 n],_,rfl,rfl,⟨rfl,rfl,i2⟩,[],F,[.string s],_,rfl,rfl,⟨rfl,rfl,i3⟩,a,cap,Fi,xs,rfl,h1,h2,ziR.1 hc,h4⟩
 rintro ⟨_,_,_,_,rfl,rfl,⟨rfl,rfl,i1⟩,_,_,_,_,rfl,rfl,⟨rfl,rfl,i2⟩,_,_,_,_,rfl,rfl,⟨rfl,rfl,i3⟩,a,cap,Fi,xs,rfl,h1,h2,hc,h4⟩;exact ⟨a,cap,Fi,xs,rfl,i1,i2,i3,h1,h2,ziR.2 hc,h4⟩
def ztg {w:World} {b o:Nat} {t:DTerm}:At w b o t↔At w b o t.tup:=
 ⟨λ⟨F,cs,h,k⟩=>⟨F,cs,zih.1 h,k⟩,λ⟨F,cs,h,k⟩=>⟨F,cs,zih.2 h,k⟩⟩
def zwy {w:World} {G:List Nat} {b o:Nat} {t:DTerm}:OAt G w b o t↔OAt G w b o t.tup:=
 ⟨λ⟨cs,h,k⟩=>⟨cs,zih.1 h,k⟩,λ⟨cs,h,k⟩=>⟨cs,zih.2 h,k⟩⟩
section
variable {w:World} {b o:Nat}
def zbK {x:DTerm} (h:At w b o x):At w b (o+0) x.kind:=zcG (α:=Int) (β:=Int×ByteArray×List DTerm) (p:=x.tup) (ztg.1 h)
def zci {x:DTerm} (h:At w b o x):At w b (o+1) x.num:=zcG (α:=Int) (β:=ByteArray×List DTerm) (p:=(x.num,x.name,x.kids)) (zbh (α:=Int) (β:=Int×ByteArray×List DTerm) (p:=x.tup) (ztg.1 h))
def zbS {x:DTerm} (h:At w b o x):At w b (o+2) x.name:=zcG (α:=ByteArray) (β:=List DTerm) (p:=(x.name,x.kids)) (zbh (α:=Int) (β:=ByteArray×List DTerm) (p:=(x.num,x.name,x.kids)) (zbh (α:=Int) (β:=Int×ByteArray×List DTerm) (p:=x.tup) (ztg.1 h)))
def zaZ {x:DTerm} (h:At w b o x):At w b (o+3) x.kids:=zbh (α:=ByteArray) (β:=List DTerm) (p:=(x.name,x.kids)) (zbh (α:=Int) (β:=ByteArray×List DTerm) (p:=(x.num,x.name,x.kids)) (zbh (α:=Int) (β:=Int×ByteArray×List DTerm) (p:=x.tup) (ztg.1 h)))
def zwz {x:DTerm} {F0:List Nat} {c0:List Value} (h0:rep F0 w c0 x.kind) {F1:List Nat} {c1:List Value} (h1:rep F1 w c1 x.num) {F2:List Nat} {c2:List Value} (h2:rep F2 w c2 x.name) {F3:List Nat} {c3:List Value} (h3:rep F3 w c3 x.kids) :
   rep (F0++(F1++(F2++F3))) w (c0++(c1++(c2++c3))) x:=zih.2 (za2 h0 (za2 h1 (za2 h2 h3)))
end
def Lens.term {w:World} {γ:Type} {H:List Nat->World->γ->Prop} {F:List Nat} {b o:Nat} {G:List Nat} {t:DTerm} {upd:DTerm->γ} (h:Lens H F w b o G t upd) :
   Lens H F w b o G t.tup (λp=>upd (.mk p.1 p.2.1 p.2.2.1 p.2.2.2)):=
 ⟨zwy.1 h.here,h.sub,λw' G' y' hc hO hs=>h.back w' G' _ hc (zwy.2 hO) hs⟩
instance:RepZ DTerm:=⟨.mk 0 0 ByteArray.empty [],RepZ.zc (Int×Int×ByteArray×List DTerm),λw=>zih.2 (RepZ.zr (α:=Int×Int×ByteArray×List DTerm) w)⟩
section
variable {γ:Type} {H:List Nat->World->γ->Prop} {F:List Nat} {w:World} {b o:Nat} {G:List Nat} {x:DTerm} {upd:DTerm->γ}
end
structure DIns where
 op:Int
 arg:Int
 term:DTerm
 to:Int
def DIns.ext_iff {x y:DIns}:x=y↔(x.op=y.op/\x.arg=y.arg/\x.term=y.term/\x.to=y.to):=⟨λh=>by rw [h];exact ⟨rfl,rfl,rfl,rfl⟩,λh=>by obtain ⟨h0,h1,h2,h3⟩:=h;cases x;cases y;simp only at h0 h1 h2 h3;simp only [h0,h1,h2,h3]⟩
instance:DecidableEq DIns:=λx y=>decidable_of_iff (x.op=y.op/\x.arg=y.arg/\x.term=y.term/\x.to=y.to) DIns.ext_iff.symm
instance:Rep DIns:=Rep.via λx=>(x.op,x.arg,x.term,x.to)
def zaw {w:World} {b o:Nat} {x:DIns} (h:At w b o x):At w b (o+0) x.op:=zcG (α:=Int) (β:=Int×DTerm×Int) (p:=(x.op,x.arg,x.term,x.to)) h
def zaq {w:World} {b o:Nat} {x:DIns} (h:At w b o x):At w b (o+1) x.arg:=zcG (α:=Int) (β:=DTerm×Int) (p:=(x.arg,x.term,x.to)) (zbh (α:=Int) (β:=Int×DTerm×Int) (p:=(x.op,x.arg,x.term,x.to)) h)
def zcd {w:World} {b o:Nat} {x:DIns} (h:At w b o x):At w b (o+2) x.term:=zcG (α:=DTerm) (β:=Int) (p:=(x.term,x.to)) (zbh (α:=Int) (β:=DTerm×Int) (p:=(x.arg,x.term,x.to)) (zbh (α:=Int) (β:=Int×DTerm×Int) (p:=(x.op,x.arg,x.term,x.to)) h))
def zb3 {w:World} {b o:Nat} {x:DIns} (h:At w b o x):At w b (o+6) x.to:=zbh (α:=DTerm) (β:=Int) (p:=(x.term,x.to)) (zbh (α:=Int) (β:=DTerm×Int) (p:=(x.arg,x.term,x.to)) (zbh (α:=Int) (β:=Int×DTerm×Int) (p:=(x.op,x.arg,x.term,x.to)) h))
instance:RepZ DIns:=⟨⟨(RepZ.zv:Int),(RepZ.zv:Int),(RepZ.zv:DTerm),(RepZ.zv:Int)⟩,RepZ.zc (Int×Int×DTerm×Int),λw=>RepZ.zr (α:=Int×Int×DTerm×Int) w⟩
def zr0 {γ:Type} {H:List Nat->World->γ->Prop} {F:List Nat} {w:World} {b o:Nat} {G:List Nat} {x:DIns} {upd:DIns->γ} (h:Lens H F w b o G x upd) :
   ∃ G1,Lens H F w b (o+6) G1 x.to (λy=>upd ⟨x.op,x.arg,x.term,y⟩):=by
 have h':Lens H F w b o G (x.op,x.arg,x.term,x.to) (λp:Int×Int×DTerm×Int=>upd ⟨p.1,p.2.1,p.2.2.1,p.2.2.2⟩):=⟨h.here,h.sub,λw' G' y' hc hO hs=>h.back w' G' _ hc hO hs⟩;obtain ⟨G0,h'⟩:=h'.snd;obtain ⟨G1,h'⟩:=h'.snd;obtain ⟨G2,h'⟩:=h'.snd;exact ⟨_,h'⟩
structure DCode where
 globals:List ByteArray
 locks:List ByteArray
 procs:List ByteArray
 entry:List Int
 ins:List DIns
def DCode.ext_iff {x y:DCode}:x=y↔(x.globals=y.globals/\x.locks=y.locks/\x.procs=y.procs/\x.entry=y.entry/\x.ins=y.ins):=⟨λh=>by rw [h];exact ⟨rfl,rfl,rfl,rfl,rfl⟩,λh=>by obtain ⟨h0,h1,h2,h3,h4⟩:=h;cases x;cases y;simp only at h0 h1 h2 h3 h4;simp only [h0,h1,h2,h3,h4]⟩
instance:DecidableEq DCode:=λx y=>decidable_of_iff (x.globals=y.globals/\x.locks=y.locks/\x.procs=y.procs/\x.entry=y.entry/\x.ins=y.ins) DCode.ext_iff.symm
instance:Rep DCode:=Rep.via λx=>(x.globals,x.locks,x.procs,x.entry,x.ins)
def zbm {w:World} {b o:Nat} {x:DCode} (h:At w b o x):At w b (o+0) x.globals:=zcG (α:=List ByteArray) (β:=(List ByteArray)×(List ByteArray)×(List Int)×(List DIns)) (p:=(x.globals,x.locks,x.procs,x.entry,x.ins)) h
def zbw {w:World} {b o:Nat} {x:DCode} (h:At w b o x):At w b (o+1) x.locks:=zcG (α:=List ByteArray) (β:=(List ByteArray)×(List Int)×(List DIns)) (p:=(x.locks,x.procs,x.entry,x.ins)) (zbh (α:=List ByteArray) (β:=(List ByteArray)×(List ByteArray)×(List Int)×(List DIns)) (p:=(x.globals,x.locks,x.procs,x.entry,x.ins)) h)
def zaC {w:World} {b o:Nat} {x:DCode} (h:At w b o x):At w b (o+2) x.procs:=zcG (α:=List ByteArray) (β:=(List Int)×(List DIns)) (p:=(x.procs,x.entry,x.ins)) (zbh (α:=List ByteArray) (β:=(List ByteArray)×(List Int)×(List DIns)) (p:=(x.locks,x.procs,x.entry,x.ins)) (zbh (α:=List ByteArray) (β:=(List ByteArray)×(List ByteArray)×(List Int)×(List DIns)) (p:=(x.globals,x.locks,x.procs,x.entry,x.ins)) h))
def zar {w:World} {b o:Nat} {x:DCode} (h:At w b o x):At w b (o+3) x.entry:=zcG (α:=List Int) (β:=(List DIns)) (p:=(x.entry,x.ins)) (zbh (α:=List ByteArray) (β:=(List Int)×(List DIns)) (p:=(x.procs,x.entry,x.ins)) (zbh (α:=List ByteArray) (β:=(List ByteArray)×(List Int)×(List DIns)) (p:=(x.locks,x.procs,x.entry,x.ins)) (zbh (α:=List ByteArray) (β:=(List ByteArray)×(List ByteArray)×(List Int)×(List DIns)) (p:=(x.globals,x.locks,x.procs,x.entry,x.ins)) h)))
def zak {w:World} {b o:Nat} {x:DCode} (h:At w b o x):At w b (o+4) x.ins:=zbh (α:=List Int) (β:=(List DIns)) (p:=(x.entry,x.ins)) (zbh (α:=List ByteArray) (β:=(List Int)×(List DIns)) (p:=(x.procs,x.entry,x.ins)) (zbh (α:=List ByteArray) (β:=(List ByteArray)×(List Int)×(List DIns)) (p:=(x.locks,x.procs,x.entry,x.ins)) (zbh (α:=List ByteArray) (β:=(List ByteArray)×(List ByteArray)×(List Int)×(List DIns)) (p:=(x.globals,x.locks,x.procs,x.entry,x.ins)) h)))
instance:RepZ DCode:=⟨⟨(RepZ.zv:List ByteArray),(RepZ.zv:List ByteArray),(RepZ.zv:List ByteArray),(RepZ.zv:List Int),(RepZ.zv:List DIns)⟩,RepZ.zc ((List ByteArray)×(List ByteArray)×(List ByteArray)×(List Int)×(List DIns)),λw=>RepZ.zr (α:=(List ByteArray)×(List ByteArray)×(List ByteArray)×(List Int)×(List DIns)) w⟩
def zp3 {w:World} {F:List Nat} {cs:List Value} {x:DCode} (h:rep F w cs x):∃ F0 c0 F1 c1 F2 c2 F3 c3 F4 c4,F=(F0++(F1++(F2++(F3++F4))))/\cs=(c0++(c1++(c2++(c3++c4))))/\rep F0 w c0 x.globals/\rep F1 w c1 x.locks/\rep F2 w c2 x.procs/\rep F3 w c3 x.entry/\rep F4 w c4 x.ins:=by
 obtain ⟨F0,G0,c0,d0,rfl,rfl,h0,h⟩:=h;obtain ⟨F1,G1,c1,d1,rfl,rfl,h1,h⟩:=h;obtain ⟨F2,G2,c2,d2,rfl,rfl,h2,h⟩:=h;obtain ⟨F3,G3,c3,d3,rfl,rfl,h3,h⟩:=h;exact ⟨_,_,_,_,_,_,_,_,_,_,rfl,rfl,h0,h1,h2,h3,h⟩
structure DTouch where
 at_:Int
 global:Int
 write:Bool
 held:Int
def DTouch.ext_iff {x y:DTouch}:x=y↔(x.at_=y.at_/\x.global=y.global/\x.write=y.write/\x.held=y.held):=⟨λh=>by rw [h];exact ⟨rfl,rfl,rfl,rfl⟩,λh=>by obtain ⟨h0,h1,h2,h3⟩:=h;cases x;cases y;simp only at h0 h1 h2 h3;simp only [h0,h1,h2,h3]⟩
instance:DecidableEq DTouch:=λx y=>decidable_of_iff (x.at_=y.at_/\x.global=y.global/\x.write=y.write/\x.held=y.held) DTouch.ext_iff.symm
instance:Rep DTouch:=Rep.via λx=>(x.at_,x.global,x.write,x.held)
def zcA {w:World} {b o:Nat} {x:DTouch} (h:At w b o x):At w b (o+0) x.at_:=zcG (α:=Int) (β:=Int×Bool×Int) (p:=(x.at_,x.global,x.write,x.held)) h
def zef {w:World} {b o:Nat} {x:DTouch} (h:At w b o x):At w b (o+1) x.global:=zcG (α:=Int) (β:=Bool×Int) (p:=(x.global,x.write,x.held)) (zbh (α:=Int) (β:=Int×Bool×Int) (p:=(x.at_,x.global,x.write,x.held)) h)
def zgB {w:World} {b o:Nat} {x:DTouch} (h:At w b o x):At w b (o+2) x.write:=zcG (α:=Bool) (β:=Int) (p:=(x.write,x.held)) (zbh (α:=Int) (β:=Bool×Int) (p:=(x.global,x.write,x.held)) (zbh (α:=Int) (β:=Int×Bool×Int) (p:=(x.at_,x.global,x.write,x.held)) h))
def zeg {w:World} {b o:Nat} {x:DTouch} (h:At w b o x):At w b (o+3) x.held:=zbh (α:=Bool) (β:=Int) (p:=(x.write,x.held)) (zbh (α:=Int) (β:=Bool×Int) (p:=(x.global,x.write,x.held)) (zbh (α:=Int) (β:=Int×Bool×Int) (p:=(x.at_,x.global,x.write,x.held)) h))
instance:RepZ DTouch:=⟨⟨(RepZ.zv:Int),(RepZ.zv:Int),(RepZ.zv:Bool),(RepZ.zv:Int)⟩,RepZ.zc (Int×Int×Bool×Int),λw=>RepZ.zr (α:=Int×Int×Bool×Int) w⟩
def zwA {w:World} {x:DTouch} (h_at_:I64 x.at_) (h_global:I64 x.global)  (h_held:I64 x.held):Mine [] w (.agg #[.int .i64 x.at_,.int .i64 x.global,.bool x.write,.int .i64 x.held]) x:=⟨⟨[.int .i64 x.at_,.int .i64 x.global,.bool x.write,.int .i64 x.held],⟨[],[],[.int .i64 x.at_],[.int .i64 x.global,.bool x.write,.int .i64 x.held],rfl,rfl,⟨rfl,rfl,h_at_⟩,⟨[],[],[.int .i64 x.global],[.bool x.write,.int .i64 x.held],rfl,rfl,⟨rfl,rfl,h_global⟩,⟨[],[],[.bool x.write],[.int .i64 x.held],rfl,rfl,⟨rfl,rfl⟩,⟨rfl,rfl,h_held⟩⟩⟩⟩,rfl⟩,qaq,Wr.nil w⟩
instance:Flat DTouch:=⟨λh=>Flat.flat (α:=Int×Int×Bool×Int) h⟩
end Go.Sh
namespace Go.Sh
open Rep (rep)
inductive DStmt where
 | mk (kind:Int) (name:ByteArray) (term:DTerm) (body els:List DStmt)
namespace DStmt
def kind:DStmt->Int | .mk k _ _ _ _=>k
def name:DStmt->ByteArray | .mk _ s _ _ _=>s
def term:DStmt->DTerm | .mk _ _ t _ _=>t
def body:DStmt->List DStmt | .mk _ _ _ b _=>b
def els:DStmt->List DStmt | .mk _ _ _ _ e=>e
def tup (t:DStmt):Int×ByteArray×DTerm×List DStmt×List DStmt:=(t.kind,t.name,t.term,t.body,t.els)
end DStmt
def DStmt.eta (t:DStmt):DStmt.mk t.kind t.name t.term t.body t.els=t:=by cases t;rfl
theorem DStmt.body_lt {t k:DStmt} (h:k∈t.body):SizeOf.sizeOf k<SizeOf.sizeOf t:=by
 cases t with
 | mk a b c l m=>
   have:k∈l:=h;have:=qcu this;simp only [DStmt.mk.sizeOf_spec];omega
theorem DStmt.els_lt {t k:DStmt} (h:k∈t.els):SizeOf.sizeOf k<SizeOf.sizeOf t:=by
 cases t with
 | mk a b c l m=>
   have:k∈m:=h;have:=qcu this;simp only [DStmt.mk.sizeOf_spec];omega
theorem DStmt.ind {p:DStmt->Prop} (h:∀ t,(∀ k∈t.body,p k)->(∀ k∈t.els,p k)->p t) (t:DStmt):p t:=
  h t (λk hk=>DStmt.ind h k) (λk hk=>DStmt.ind h k)
termination_by SizeOf.sizeOf t
decreasing_by
  . exact DStmt.body_lt hk
  exact DStmt.els_lt hk
def slc (n:Nat) (nl:Prop) (w:World) (F:List Nat) (c:Value) (C:List Nat->List Value->Prop):Prop:=
 ∃ a cap Fi xs,c=.slice a n cap/\n<=cap/\cap<=maxLen/\C Fi xs/\((nl/\F=[])\/∃ b o,a=some ⟨b,o,none⟩/\F=b :: Fi/\w.rangeAt b o xs/\b<w.heap.size)
def zwB {n:Nat} {nl:Prop} {w:World} {F:List Nat} {c:Value} {C:List Nat->List Value->Prop} (h:slc n nl w F c C):c.oneCell'=true:=by
 obtain ⟨a,cap,Fi,xs,rfl,_⟩:=h;rfl
def zuR {w w':World} {b:Nat} (hb:b<w.heap.size) (h:w'.heap[b]?=w.heap[b]?):b<w'.heap.size:=by
 rcases qaA b (Array.size (World.heap w')) with h' | h'
 . exact h'
 rw [Array.getElem?_eq_none h'] at h;simp [Array.getElem?_eq_getElem hb] at h
def zth {n:Nat} {nl:Prop} {w w':World} {F:List Nat} {c:Value} {C C':List Nat->List Value->Prop} (h:slc n nl w F c C) (hk:∀ b∈F,w'.heap[b]?=w.heap[b]?)
   (hC:∀ Fi xs,C Fi xs->(∀ b∈Fi,w'.heap[b]?=w.heap[b]?)->C' Fi xs) (hN:nl->∀ Fi xs,C Fi xs->Fi=[]):slc n nl w' F c C':=by
 obtain ⟨a,cap,Fi,xs,hc,h1,h2,h3,h4⟩:=h;rcases h4 with ⟨hn,rfl⟩ | ⟨b,o,ha,hF,hr,hb⟩
 . exact ⟨a,cap,Fi,xs,hc,h1,h2,hC _ _ h3 (λb hb=>by rw [hN hn _ _ h3] at hb;cases hb),.inl ⟨hn,rfl⟩⟩
 subst hF;have g0:=hk b sS;exact ⟨a,cap,Fi,xs,hc,h1,h2,hC _ _ h3 λc hc=>hk c (by simp [hc]),.inr ⟨b,o,ha,rfl,zbo hr g0,zuR hb g0⟩⟩
def zA0 {n:Nat} {nl:Prop} {w:World} {F:List Nat} {c:Value} {C:List Nat->List Value->Prop} (h:slc n nl w F c C) (hC:∀ Fi xs,C Fi xs->∀ b∈Fi,b<w.heap.size):∀ b∈F,b<w.heap.size:=by
 obtain ⟨a,cap,Fi,xs,hc,h1,h2,h3,h4⟩:=h;intro c hm;rcases h4 with ⟨hn,rfl⟩ | ⟨b,o,ha,hF,hr,hb⟩
 . cases hm
 subst hF;rcases qaa.1 hm with rfl | hm
 . exact hb
 exact hC _ _ h3 c hm
mutual
def zuS:DStmt->List Nat->World->List Value->Prop
  | .mk k s t bs es,F,w,cs=>∃ Ft ct Fb cb Fe ce,F=Ft++(Fb++Fe)/\cs=.int .i64 k :: .string s :: (ct++[cb,ce])/\I64 k/\s.size<=maxLen/\rep Ft w ct t /\
    slc bs.length (bs=[]) w Fb cb (λFi xs=>zeM bs Fi w xs)/\slc es.length (es=[]) w Fe ce (λFi xs=>zeM es Fi w xs)
def zeM:List DStmt->List Nat->World->List Value->Prop
  | [],F,_,xs=>F=[]/\xs=[]
  | y :: ys,F,w,xs=>∃ F1 F2 c1 c2,F=F1++F2/\xs=c1++c2/\zuS y F1 w c1/\zeM ys F2 w c2
end
def znA {l:List DStmt} (h:l=[]) {w:World} (Fi:List Nat) (xs:List Value) (hc:zeM l Fi w xs):Fi=[]:=by
 subst h;rw [zeM] at hc;exact hc.1
def zzF {t:DStmt} {F:List Nat} {w:World} {cs:List Value} (h:zuS t F w cs):cs.length=8:=by
 cases t;rw [zuS] at h;obtain ⟨Ft,ct,Fb,cb,Fe,ce,_,rfl,_,_,ht,_⟩:=h;have:=Rep.len ht;simp only [qaj,qag,qay,this];rfl
def zzG {t:DStmt} {F:List Nat} {w:World} {cs:List Value} (h:zuS t F w cs):∀ v∈cs,v.oneCell'=true:=by
 cases t;rw [zuS] at h;obtain ⟨Ft,ct,Fb,cb,Fe,ce,_,rfl,_,_,ht,hb,he⟩:=h;intro v hv;simp only [qaa,qae,qac,or_false] at hv;rcases hv with rfl | rfl | hv | rfl | rfl
 . rfl
 . rfl
 . exact Rep.one ht v hv
 . exact zwB hb
 exact zwB he
mutual
theorem zp4:∀ (t:DStmt) {F:List Nat} {w w':World} {cs:List Value},zuS t F w cs->(∀ b∈F,w'.heap[b]?=w.heap[b]?)->zuS t F w' cs
  | .mk k s t bs es,F,w,w',cs,h,hk=>by
    rw [zuS] at h ⊢;obtain ⟨Ft,ct,Fb,cb,Fe,ce,hF,hcs,i1,i2,ht,hb,he⟩:=h;subst hF
    exact ⟨Ft,ct,Fb,cb,Fe,ce,rfl,hcs,i1,i2,Rep.keep ht λb hb=>hk b (by simp [hb]),
      zth hb (λb hb=>hk b (by simp [hb])) (λFi xs hc hx=>zii bs hc hx) λh=>znA h,
      zth he (λb hb=>hk b (by simp [hb])) (λFi xs hc hx=>zii es hc hx) λh=>znA h⟩
theorem zii:∀ (l:List DStmt) {F:List Nat} {w w':World} {cs:List Value},zeM l F w cs->(∀ b∈F,w'.heap[b]?=w.heap[b]?)->zeM l F w' cs
  | [],F,w,w',cs,h,_=>by rw [zeM] at h ⊢;exact h
  | y :: ys,F,w,w',cs,h,hk=>by
    rw [zeM] at h ⊢;obtain ⟨F1,F2,c1,c2,rfl,rfl,h1,h2⟩:=h;exact ⟨F1,F2,c1,c2,rfl,rfl,zp4 y h1 λb hb=>hk b (by simp [hb]),zii ys h2 λb hb=>hk b (by simp [hb])⟩
end
mutual
theorem zwC:∀ (t:DStmt) {F:List Nat} {w:World} {cs:List Value},zuS t F w cs->∀ b∈F,b<w.heap.size
  | .mk k s t bs es,F,w,cs,h,c,hm=>by
    rw [zuS] at h;obtain ⟨Ft,ct,Fb,cb,Fe,ce,hF,hcs,i1,i2,ht,hb,he⟩:=h;subst hF;rcases qae.1 hm with hm | hm
    . exact Rep.lt ht c hm
    rcases qae.1 hm with hm | hm
    . exact zA0 hb (λFi xs hc=>zlA bs hc) c hm
    exact zA0 he (λFi xs hc=>zlA es hc) c hm
theorem zlA:∀ (l:List DStmt) {F:List Nat} {w:World} {cs:List Value},zeM l F w cs->∀ b∈F,b<w.heap.size
  | [],F,w,cs,h,c,hm=>by rw [zeM] at h;rw [h.1] at hm;cases hm
  | y :: ys,F,w,cs,h,c,hm=>by
    rw [zeM] at h;obtain ⟨F1,F2,c1,c2,rfl,rfl,h1,h2⟩:=h;rcases qae.1 hm with hm | hm
    . exact zwC y h1 c hm
    exact zlA ys h2 c hm
end
instance:Rep DStmt where
 size:=8
 agg:=true
 rep F w cs x:=zuS x F w cs
 pos:=by decide
 sz h:=by cases h
 len h:=zzF h
 one h:=zzG h
 keep h hk:=zp4 _ h hk
 lt h:=zwC _ h
theorem ziS {w:World}:∀ {l:List DStmt} {F:List Nat} {xs:List Value},zeM l F w xs↔Cells F w xs l
 | [],F,xs=>by rw [zeM];exact Iff.rfl
 | y :: ys,F,xs=>by
   rw [zeM];constructor
   . rintro ⟨F1,F2,c1,c2,h1,h2,h3,h4⟩;exact ⟨F1,F2,c1,c2,h1,h2,h3,ziS.1 h4⟩
   rintro ⟨F1,F2,c1,c2,h1,h2,h3,h4⟩;exact ⟨F1,F2,c1,c2,h1,h2,h3,ziS.2 h4⟩
def zoA {w:World} {F:List Nat} {c:Value} {l:List DStmt}:slc l.length (l=[]) w F c (λFi xs=>zeM l Fi w xs)↔rep F w [c] l:=by
 constructor
 . rintro ⟨a,cap,Fi,xs,rfl,h1,h2,h3,h4⟩
   exact ⟨a,cap,Fi,xs,rfl,h1,h2,ziS.1 h3,h4⟩
 rintro ⟨a,cap,Fi,xs,hc,h1,h2,h3,h4⟩;exact ⟨a,cap,Fi,xs,by simpa using hc,h1,h2,ziS.2 h3,h4⟩
def zex {w:World} {F:List Nat} {cs:List Value} {l:List DStmt} (h:rep F w cs l):∃ c,cs=[c]:=by
 obtain ⟨a,cap,Fi,xs,rfl,_⟩:=h;exact ⟨_,rfl⟩
def zfz {w:World} {F:List Nat} {cs:List Value} {t:DStmt}:rep F w cs t↔rep F w cs t.tup:=by
 obtain ⟨k,s,t,bs,es⟩:=t;show zuS _ F w cs↔_;rw [zuS];constructor
 . rintro ⟨Ft,ct,Fb,cb,Fe,ce,rfl,rfl,i1,i2,ht,hb,he⟩
   exact ⟨[],_,[.int .i64 k],_,rfl,rfl,⟨rfl,rfl,i1⟩,[],_,[.string s],_,rfl,rfl,⟨rfl,rfl,i2⟩,Ft,Fb++Fe,ct,[cb,ce],rfl,rfl,ht,Fb,Fe,[cb],[ce],rfl,rfl,zoA.1 hb,zoA.1 he⟩
 rintro ⟨_,_,_,_,rfl,rfl,⟨rfl,rfl,i1⟩,_,_,_,_,rfl,rfl,⟨rfl,rfl,i2⟩,Ft,_,ct,_,rfl,rfl,ht,Fb,Fe,c1,c2,rfl,rfl,hb,he⟩;obtain ⟨cb,rfl⟩:=zex hb;obtain ⟨ce,rfl⟩:=zex he;exact ⟨Ft,ct,Fb,cb,Fe,ce,rfl,rfl,i1,i2,ht,zoA.2 hb,zoA.2 he⟩
def zwD {w:World} {b o:Nat} {t:DStmt}:At w b o t↔At w b o t.tup:=
 ⟨λ⟨F,cs,h,k⟩=>⟨F,cs,zfz.1 h,k⟩,λ⟨F,cs,h,k⟩=>⟨F,cs,zfz.2 h,k⟩⟩
def zti {w:World} {G:List Nat} {b o:Nat} {t:DStmt}:OAt G w b o t↔OAt G w b o t.tup:=
 ⟨λ⟨cs,h,k⟩=>⟨cs,zfz.1 h,k⟩,λ⟨cs,h,k⟩=>⟨cs,zfz.2 h,k⟩⟩
section
variable {w:World} {b o:Nat} {x:DStmt}
def zc5 (h:At w b o x):At w b (o+0) x.kind:=zcG (α:=Int) (β:=ByteArray×DTerm×List DStmt×List DStmt) (p:=x.tup) (zwD.1 h)
def zDR (h:At w b o x):At w b (o+1) (x.name,x.term,x.body,x.els):=zbh (α:=Int) (β:=ByteArray×DTerm×List DStmt×List DStmt) (p:=x.tup) (zwD.1 h)
def zbL (h:At w b o x):At w b (o+1) x.name:=zcG (α:=ByteArray) (β:=DTerm×List DStmt×List DStmt) (p:=(x.name,x.term,x.body,x.els)) (zDR h)
def zDS (h:At w b o x):At w b (o+2) (x.term,x.body,x.els):=zbh (α:=ByteArray) (β:=DTerm×List DStmt×List DStmt) (p:=(x.name,x.term,x.body,x.els)) (zDR h)
def zdH (h:At w b o x):At w b (o+2) x.term:=zcG (α:=DTerm) (β:=List DStmt×List DStmt) (p:=(x.term,x.body,x.els)) (zDS h)
def zDT (h:At w b o x):At w b (o+6) (x.body,x.els):=zbh (α:=DTerm) (β:=List DStmt×List DStmt) (p:=(x.term,x.body,x.els)) (zDS h)
def zdu (h:At w b o x):At w b (o+6) x.body:=zcG (α:=List DStmt) (β:=List DStmt) (p:=(x.body,x.els)) (zDT h)
def zc6 (h:At w b o x):At w b (o+7) x.els:=zbh (α:=List DStmt) (β:=List DStmt) (p:=(x.body,x.els)) (zDT h)
def zwE {F0:List Nat} {c0:List Value} (h0:rep F0 w c0 x.kind) {F1:List Nat} {c1:List Value} (h1:rep F1 w c1 x.name) {F2:List Nat} {c2:List Value} (h2:rep F2 w c2 x.term) {F3:List Nat} {c3:List Value} (h3:rep F3 w c3 x.body) {F4:List Nat} {c4:List Value} (h4:rep F4 w c4 x.els) :
   rep (F0++(F1++(F2++(F3++F4)))) w (c0++(c1++(c2++(c3++c4)))) x:=zfz.2 (za2 h0 (za2 h1 (za2 h2 (za2 h3 h4))))
end
def Lens.stmt {w:World} {γ:Type} {H:List Nat->World->γ->Prop} {F:List Nat} {b o:Nat} {G:List Nat} {t:DStmt} {upd:DStmt->γ} (h:Lens H F w b o G t upd) :
   Lens H F w b o G t.tup (λp=>upd (.mk p.1 p.2.1 p.2.2.1 p.2.2.2.1 p.2.2.2.2)):=
 ⟨zti.1 h.here,h.sub,λw' G' y' hc hO hs=>h.back w' G' _ hc (zti.2 hO) hs⟩
instance:RepZ DStmt:=⟨.mk 0 ByteArray.empty RepZ.zv [] [],RepZ.zc (Int×ByteArray×DTerm×List DStmt×List DStmt),λw=>zfz.2 (RepZ.zr (α:=Int×ByteArray×DTerm×List DStmt×List DStmt) w)⟩
section
variable {γ:Type} {H:List Nat->World->γ->Prop} {F:List Nat} {w:World} {b o:Nat} {G:List Nat} {x:DStmt} {upd:DStmt->γ}
def zp5 (h:Lens H F w b o G x upd):∃ G1,Lens H F w b (o+1) G1 x.name (λy=>upd (.mk x.kind y x.term x.body x.els)):=by
 obtain ⟨G1,h1⟩:=h.stmt.snd;obtain ⟨G2,h2⟩:=h1.fst;exact ⟨G2,h2⟩
def zp6 (h:Lens H F w b o G x upd):∃ G1,Lens H F w b (o+6) G1 x.body (λy=>upd (.mk x.kind x.name x.term y x.els)):=by
 obtain ⟨G1,h1⟩:=h.stmt.snd;obtain ⟨G2,h2⟩:=h1.snd;obtain ⟨G3,h3⟩:=h2.snd;obtain ⟨G4,h4⟩:=h3.fst;exact ⟨G4,h4⟩
def zky (h:Lens H F w b o G x upd):∃ G1,Lens H F w b (o+7) G1 x.els (λy=>upd (.mk x.kind x.name x.term x.body y)):=by
 obtain ⟨G1,h1⟩:=h.stmt.snd;obtain ⟨G2,h2⟩:=h1.snd;obtain ⟨G3,h3⟩:=h2.snd;obtain ⟨G4,h4⟩:=h3.snd;exact ⟨G4,h4⟩
end
structure DProc where
 name:ByteArray
 body:List DStmt
def DProc.ext_iff {x y:DProc}:x=y↔(x.name=y.name/\x.body=y.body):=⟨λh=>by rw [h];exact ⟨rfl,rfl⟩,λh=>by obtain ⟨h0,h1⟩:=h;cases x;cases y;simp only at h0 h1;simp only [h0,h1]⟩
instance:Rep DProc:=Rep.via λx=>(x.name,x.body)
def zhF {w:World} {b o:Nat} {x:DProc} (h:At w b o x):At w b (o+0) x.name:=zcG (α:=ByteArray) (β:=(List DStmt)) (p:=(x.name,x.body)) h
def zjH {w:World} {b o:Nat} {x:DProc} (h:At w b o x):At w b (o+1) x.body:=zbh (α:=ByteArray) (β:=(List DStmt)) (p:=(x.name,x.body)) h
instance:RepZ DProc:=⟨⟨(RepZ.zv:ByteArray),(RepZ.zv:List DStmt)⟩,RepZ.zc (ByteArray×(List DStmt)),λw=>RepZ.zr (α:=ByteArray×(List DStmt)) w⟩
structure DProg where
 globals:List ByteArray
 locks:List ByteArray
 procs:List DProc
def DProg.ext_iff {x y:DProg}:x=y↔(x.globals=y.globals/\x.locks=y.locks/\x.procs=y.procs):=⟨λh=>by rw [h];exact ⟨rfl,rfl,rfl⟩,λh=>by obtain ⟨h0,h1,h2⟩:=h;cases x;cases y;simp only at h0 h1 h2;simp only [h0,h1,h2]⟩
instance:Rep DProg:=Rep.via λx=>(x.globals,x.locks,x.procs)
def zf5 {w:World} {b o:Nat} {x:DProg} (h:At w b o x):At w b (o+0) x.globals:=zcG (α:=List ByteArray) (β:=(List ByteArray)×(List DProc)) (p:=(x.globals,x.locks,x.procs)) h
def zhG {w:World} {b o:Nat} {x:DProg} (h:At w b o x):At w b (o+1) x.locks:=zcG (α:=List ByteArray) (β:=(List DProc)) (p:=(x.locks,x.procs)) (zbh (α:=List ByteArray) (β:=(List ByteArray)×(List DProc)) (p:=(x.globals,x.locks,x.procs)) h)
def zcj {w:World} {b o:Nat} {x:DProg} (h:At w b o x):At w b (o+2) x.procs:=zbh (α:=List ByteArray) (β:=(List DProc)) (p:=(x.locks,x.procs)) (zbh (α:=List ByteArray) (β:=(List ByteArray)×(List DProc)) (p:=(x.globals,x.locks,x.procs)) h)
instance:RepZ DProg:=⟨⟨(RepZ.zv:List ByteArray),(RepZ.zv:List ByteArray),(RepZ.zv:List DProc)⟩,RepZ.zc ((List ByteArray)×(List ByteArray)×(List DProc)),λw=>RepZ.zr (α:=(List ByteArray)×(List ByteArray)×(List DProc)) w⟩
section
variable {w:World} {lo hi:Nat}
def zf6 {k n:Int} {s:ByteArray} {v:Value} {l:List DTerm} (hk:I64 k) (hn:I64 n) (hs:s.size<=maxLen) (h:OwnI lo hi w v l):OwnI lo hi w (.agg #[.int .i64 k,.int .i64 n,.string s,v]) (DTerm.mk k n s l):=by
 obtain ⟨F,⟨⟨cs,hr,rfl⟩,g0,hw⟩,hF⟩:=h;obtain ⟨a,cap,Fi,xs,rfl,h1,h2,hc,h4⟩:=hr;exact ⟨F,⟨⟨_,zwz (x:=.mk k n s l) (F0:=[]) (F1:=[]) (F2:=[]) ⟨rfl,rfl,hk⟩ ⟨rfl,rfl,hn⟩ ⟨rfl,rfl,hs⟩ ⟨a,cap,Fi,xs,rfl,h1,h2,hc,h4⟩,rfl⟩,g0,hw⟩,hF⟩
def zhH {v:Value} {t:DTerm} (h:Is w v t):∃ a cap,v=.agg #[.int .i64 t.kind,.int .i64 t.num,.string t.name,.slice a t.kids.length cap]:=by
 obtain ⟨F,cs,hr,rfl⟩:=h;obtain ⟨k,n,s,ks⟩:=t;rw [show rep F w cs (DTerm.mk k n s ks)=zrZ (.mk k n s ks) F w cs from rfl,zrZ] at hr;obtain ⟨a,cap,Fi,xs,rfl,_⟩:=hr;exact ⟨a,cap,rfl⟩
def zwF {k:Int} {s:ByteArray} {t:DTerm} {vb ve:Value} {bs es:List DStmt} {tc:Array Value} {l0 h0 l1 h1 l2 h2:Nat} (hk:I64 k) (hs:s.size<=maxLen) (ht:OwnI l0 h0 w (.agg tc) t) (hb:OwnI l1 h1 w vb bs) (he:OwnI l2 h2 w ve es)
   (d01:h0<=l1\/h1<=l0) (d02:h0<=l2\/h2<=l0) (d12:h1<=l2\/h2<=l1) (b0:lo<=l0/\h0<=hi) (b1:lo<=l1/\h1<=hi) (b2:lo<=l2/\h2<=hi) :
   OwnI lo hi w (.agg ([Value.int .i64 k,Value.string s]++tc.toList++[vb,ve]).toArray) (DStmt.mk k s t bs es):=by
 obtain ⟨F0,⟨⟨c0,r0,e0⟩,n0,w0⟩,B0⟩:=ht;obtain ⟨F1,⟨⟨c1,r1,e1⟩,n1,w1⟩,B1⟩:=hb;obtain ⟨F2,⟨⟨c2,r2,e2⟩,n2,w2⟩,B2⟩:=he
 have g0:tc.toList=c0:=by
   simp only [mkv,Rep.agg,cond_true,Value.agg.injEq] at e0;rw [e0]
 obtain ⟨cb,rfl⟩:=zex r1;obtain ⟨ce,rfl⟩:=zex r2;simp only [mkv,Rep.agg,cond_false,qbk] at e1 e2;subst e1 e2;refine ⟨F0++(F1++F2),⟨⟨_,zwE (x:=.mk k s t bs es) (F0:=[]) (F1:=[]) ⟨rfl,rfl,hk⟩ ⟨rfl,rfl,hs⟩ r0 r1 r2,?_⟩,?_,w0.append (w1.append w2)⟩,λx hx=>?_⟩
 . rw [g0];simp [mkv,Rep.agg,DStmt.kind,DStmt.name]
 . rw [qao,qao]
   refine ⟨n0,⟨n1,n2,λp hp q hq e=>?_⟩,λp hp q hq e=>?_⟩
   . subst e;have:=B1 p hp;have:=B2 p hq;omega
   subst e;have:=B0 p hp;rcases qae.1 hq with hq | hq
   . have:=B1 p hq;omega
   have:=B2 p hq;omega
 rcases qae.1 hx with hx | hx
 . have:=B0 x hx;omega
 rcases qae.1 hx with hx | hx
 . have:=B1 x hx;omega
 have:=B2 x hx;omega
end
end Go.Sh
namespace Go.Sh
open Rep (rep)
variable {x:Int}
def zrI (x:Int):Int:=IntKind.i64.wrap x
def zuT (a b:Int):Int:=zrI ((BitVec.ofInt 64 a &&& BitVec.ofInt 64 b).toNat:Nat)
def zET (a b:Int):Int:=zrI ((BitVec.ofInt 64 a ^^^ BitVec.ofInt 64 b).toNat:Nat)
def zDU (a:Int) (n:Nat):Int:=a.fdiv (2^(min n 64))
def zCt (x:Int):I64 (zrI x):=by
 have e:zrI x=if x%18446744073709551616>=9223372036854775808 then x%18446744073709551616-18446744073709551616 else x%18446744073709551616:=by
   simp [zrI,IntKind.wrap,IntKind.signed,IntKind.bits]
 unfold I64;rw [e];split<;>omega
def zwG (h:I64 x):zrI x=x:=IntWalk.i64_in _ h
def zoB (a:Int) {n:Nat} (hn:n<9223372036854775808):0<=zuT a n/\zuT a n<=n:=by
 have h1:(BitVec.ofInt 64 a &&& BitVec.ofInt 64 (n:Int)).toNat<=n:=by
   rw [BitVec.toNat_and];refine qan Nat.and_le_right ?_;rw [BitVec.ofInt_natCast,BitVec.toNat_ofNat,qbn oo];exact qas _
 unfold zuT;rw [zwG (by unfold I64;omega)];omega
section
variable {P:Program} {w:World} {K:Value->Prop} {t:TypeId} {x y:Operand} {a b:Int}
def zwH (k:K (.int .i64 (zrI (a+b)))):RD P (bin .add t x y (.int .i64 a) (.int .i64 b)) w K:=
 zbb (λw' _=>by simp [bin,eqGuard,binOp,Op.intArith,zrI]) k
def zCu (k:K (.int .i64 (zrI (a*b)))):RD P (bin .mul t x y (.int .i64 a) (.int .i64 b)) w K:=
 zbb (λw' _=>by simp [bin,eqGuard,binOp,Op.intArith,zrI]) k
def zr1 (k:K (.int .i64 (zuT a b))):RD P (bin .and t x y (.int .i64 a) (.int .i64 b)) w K:=by
 refine zbb (λw' _=>?_) k;show (do eqGuard .and t x y (.int .i64 a) (.int .i64 b);binOp .and t (.int .i64 a) (.int .i64 b):Sem Value).run P w'=_;simp only [eqGuard,binOp,Op.intBits];rfl
def zCv (k:K (.int .i64 (zET a b))):RD P (bin .xor t x y (.int .i64 a) (.int .i64 b)) w K:=by
 refine zbb (λw' _=>?_) k;show (do eqGuard .xor t x y (.int .i64 a) (.int .i64 b);binOp .xor t (.int .i64 a) (.int .i64 b):Sem Value).run P w'=_;simp only [eqGuard,binOp,Op.intBits];rfl
def zwI {n:Nat} {ku:IntKind} (k:K (.int .i64 (zDU a n))):RD P (bin .shr t x y (.int .i64 a) (.int ku (n:Int))) w K:=by
 refine zbb (λw' _=>?_) k;have e0:¬((n:Int)<0):=oo
 show (do eqGuard .shr t x y (.int .i64 a) (.int ku (n:Int));binOp .shr t (.int .i64 a) (.int ku (n:Int)):Sem Value).run P w'=_;simp only [eqGuard,binOp,Op.shift,e0,if_false,qah];rfl
def zwJ {g0 dst:TypeId} {n:Nat} (hs:(P.underlying g0).isSome=true) (hd:P.underlying dst=some (.int .i64)) (hn:n<256) (k:K (.int .i64 (n:Int))):RD P (convert g0 dst (.int .u8 (n:Int))) w K:=by
 refine zbb (λw' _=>?_) k;obtain ⟨d,g1⟩:=Option.isSome_iff_exists.mp hs;have:IntKind.i64.wrap (n:Int)=n:=IntWalk.i64_in _ oo;simp [convert,run_underlying g1,run_underlying hd,Conv.intToInt,this]
end
def zwK {a n:Int} (h0:0<=a) (hn:0<n):0<=a.tmod n/\a.tmod n<n:=by
 rw [qbL h0];exact ⟨Int.emod_nonneg _ oo,Int.emod_lt_of_pos _ hn⟩
end Go.Sh
namespace Go.Sh
section
variable {P:Program} {g:Cfg} {s u:Env} {w:World} {K:Exit->Env->World->Prop} {E:Env->World->Prop} {J:Value->World->Prop} {ρ:Operand->Value} {a b:Code} {id i n t d m fl:Nat} {v:Value} {l:List Nat} {ol:List Oper} {ops:Array Oper} {c:Bool} {ext:Xt} {o:Oper} {x y z:Operand}
def zhe {α:Sort _} {c:Bool} {p q:α}:cond c p q=if c=true then p else q:=by cases c<;>rfl
def ztj:(Nat.beq n m=true)=(n=m):=Nat.beq_eq
def zr2:(zbB m t=true)=((m >>> t)%2=1):=by
 unfold zbB;rw [ztj];show (1 &&& (m >>> t)=1)=_;rw [qc8,qcC]
def zzH:(List.elem n []=true)=False:=by simp [List.elem]
def zzI:(List.elem n (m :: l)=true)=(n=m\/List.elem n l=true):=by simp [List.elem_cons]
theorem zDV:upd s d v t=if t=d then v else s t:=by
 unfold upd;by_cases h:t=d
 . rw [if_pos h,show Nat.beq t d=true from ztj▸h];rfl
 rw [if_neg h];cases h2:Nat.beq t d with
 | true=>exact absurd (ztj▸h2) h
 | false=>rfl
theorem zDW:mix m s u t=if (m >>> t)%2=1 then u t else s t:=by
 unfold mix;by_cases h:(m >>> t)%2=1
 . rw [if_pos h,show zbB m t=true from zr2▸h];rfl
 rw [if_neg h];cases h2:zbB m t with
 | true=>exact absurd (zr2▸h2) h
 | false=>rfl
def Jn (P:Program) (g:Cfg) (a b:Code) (s:Env) (w:World) (K:Exit->Env->World->Prop):Option (Nat×List Nat)->Prop
 | some (m,L)=>JOIN L (λJ=>vc P g a s w (zkX K λs' w'=>J (L.map s') w')) (λu w'=>vc P g b (mix m s u) w' K)
 | none=>vc P g a s w (zkX K λs' w'=>vc P g b s' w' K)
def Lp (P:Program) (g:Cfg) (c:Code) (s:Env) (w:World) (K:Exit->Env->World->Prop):Option (Nat×List Nat)->Prop
 | some (m,L)=>LOOPI L (L.map s) w λu w' next=>vc P g c (mix m s u) w' (zkX K λs' w''=>next (L.map s') w'')
 | none=>False
def R3 (P:Program) (g:Cfg) (id:Nat) (ol:List Oper) (s:Env) (w:World) (K:Env->World->Prop):Option (List Nat×Nat)->Prop
 | some (l,fl)=>if g.xs.elem id=true then XR (λX=>zeT P ⟨g.ext,some X⟩ ol fl K l s w) else zeT P ⟨g.ext,none⟩ ol fl K l s w
 | none=>False
def R2 (P:Program) (g:Cfg) (id:Nat) (ol:List Oper) (s:Env) (w:World) (K:Env->World->Prop):Option (Nat×Nat)->Prop
 | some (m,p)=>zEK P ⟨g.ext,none⟩ ol m p s w K
 | none=>R3 P g id ol s w K (find g.draws id)
def R1 (P:Program) (g:Cfg) (id:Nat) (ol:List Oper) (s:Env) (w:World) (K:Env->World->Prop):Option Nat->Prop
 | some m=>zzq P ⟨g.ext,none⟩ ol m s w K
 | none=>R2 P g id ol s w K (find g.pars id)
def zCw:vc P g .skip s w K=K .normal s w:=by rw [vc]
def zDX:vc P g (.region id ops false) s w K=zeT P ⟨g.ext,none⟩ ops.toList 0 (K .normal) (List.range ops.size) s w:=by rw [vc]
theorem zCx:vc P g (.region id ops true) s w K=R1 P g id ops.toList s (World.drew1 w) (K .normal) (find g.gpars id):=by
 rw [vc];cases h1:find g.gpars id with
 | some m=>rfl
 | none=>
   show _=R2 P g id ops.toList s (World.drew1 w) (K .normal) (find g.pars id);cases h2:find g.pars id with
   | some m=>rfl
   | none=>
     show _=R3 P g id ops.toList s (World.drew1 w) (K .normal) (find g.draws id);cases h3:find g.draws id with
     | some m=>obtain ⟨l,fl⟩:=m;show (bif _ then _ else _)=_;rw [zhe];rfl
     | none=>rfl
def zDY:vc P g (.seq a b) s w K=Jn P g a b s w K ((zaI b).bind (find g.joins)):=by
 rw [vc];cases (zaI b).bind (find g.joins)<;>rfl
def zzJ:vc P g (.block id a) s w K=vc P g a s w (zlr id K):=by rw [vc]
def zCy:vc P g (.loop a) s w K=Lp P g a s w K ((zaI a).bind (find g.loops)):=by
 rw [vc];cases (zaI a).bind (find g.loops)<;>rfl
def zCz:vc P g (.exit id) s w K=K (.exit id) s w:=by rw [vc]
def zDZ:vc P g .ret s w K=K .ret s w:=by rw [vc]
def BRq (v:Value) (kt kf:Prop):Prop:=BR v kt kf
def zCA (v:Value) (kt kf ks:Prop):Prop:=GBR v kt kf ks
def zD0 {kt kf:Prop}:BRq v kt kf=BR v kt kf:=Eq.trans rfl rfl
def zCB {kt kf ks:Prop}:zCA v kt kf ks=GBR v kt kf ks:=Eq.trans rfl rfl
def zA1 {kt kf:Prop}:BR (.bool true) kt kf=kt:=Eq.trans rfl rfl
def zA2 {kt kf:Prop}:BR (.bool false) kt kf=kf:=Eq.trans rfl rfl
def zwL {kt kf ks:Prop}:GBR (.bool true) kt kf ks=kt:=Eq.trans rfl rfl
def zwM {kt kf ks:Prop}:GBR (.bool false) kt kf ks=kf:=Eq.trans rfl rfl
def zA3 {kt kf:Prop}:BR undef kt kf=False:=Eq.trans rfl rfl
def zwN {kt kf ks:Prop}:GBR undef kt kf ks=ks:=Eq.trans rfl rfl
@[congr] theorem zFb {kt kf:Prop} {q q':Value} (h:q=q'):BRq q kt kf=BRq q' kt kf:=by rw [h]
@[congr] theorem zEU {kt kf ks:Prop} {q q':Value} (h:q=q'):zCA q kt kf ks=zCA q' kt kf ks:=by rw [h]
theorem zD1:vc P g (.cond x a b) s w K=BRq (ev s x) (vc P g a (lit s x true) w K) (vc P g b (lit s x false) w K):=by rw [vc];rfl
def FR:Option Nat->Code->Option Nat
 | some i,_=>some i
 | none,b=>zaI b
def zA4:zaI (.region id ops c)=some id:=Eq.trans rfl rfl
def zA5:zaI (.seq a b)=FR (zaI a) b:=by rw [zaI];cases zaI a<;>rfl
def zA6:zaI (.block id a)=zaI a:=Eq.trans rfl rfl
def zA7:zaI (.loop a)=zaI a:=Eq.trans rfl rfl
def zA8:zaI (.cond x a b)=none:=Eq.trans rfl rfl
def zA9:zaI (.exit id)=none:=Eq.trans rfl rfl
def zBa:zaI .ret=none:=Eq.trans rfl rfl
def ztk {α:Type}:find ([]:List (Nat×α)) n=none:=Eq.trans rfl rfl
def ztl {α:Type} {k:Nat} {q:α} {r:List (Nat×α)}:find ((k,q) :: r) n=if Nat.beq k n=true then some q else find r n:=by rw [find,zhe]
def ztm {N:Env->World->Prop}:zkX K N .normal s w=N s w:=Eq.trans rfl rfl
def ztn {N:Env->World->Prop}:zkX K N (.exit id) s w=K (.exit id) s w:=Eq.trans rfl rfl
def zto {N:Env->World->Prop}:zkX K N .ret s w=K .ret s w:=Eq.trans rfl rfl
def zBb:zlr id K (.exit i) s w=if Nat.beq i id=true then K .normal s w else K (.exit i) s w:=by rw [zlr,zhe]
def zBc:zlr id K .normal s w=K .normal s w:=Eq.trans rfl rfl
def zBd:zlr id K .ret s w=K .ret s w:=Eq.trans rfl rfl
def zwO {rs:List ResultVar}:zDL P rs J .normal s w=zrM P s w rs λvs=>J (one vs) w:=Eq.trans rfl rfl
def zwP {rs:List ResultVar}:zDL P rs J .ret s w=zrM P s w rs λvs=>J (one vs) w:=Eq.trans rfl rfl
def zwQ {k:List Value->Prop}:zrM P s w [] k=k []:=Eq.trans rfl rfl
def zwR {r:List ResultVar} {k:List Value->Prop}:zrM P s w (.tmp t :: r) k=zrM P s w r λvs=>k (s t :: vs):=Eq.trans rfl rfl
def zwS {r:List ResultVar} {k:List Value->Prop}:zrM P s w (.cell i t :: r) k=RD P (zfN t (s i)) w λv=>zrM P s w r λvs=>k (v :: vs):=Eq.trans rfl rfl
def zwT:one [v]=v:=Eq.trans rfl rfl
def zwU:one []=.tuple #[]:=Eq.trans rfl rfl
def zwV {q:Value} {r:List Value}:one (v :: q :: r)=.tuple (v :: q :: r).toArray:=Eq.trans rfl rfl
def zBe:ev s (.tmp t)=s t:=Eq.trans rfl rfl
def zBf:ev s (.const v)=v:=Eq.trans rfl rfl
def zBg:ev s (.func n)=.func (.func n) #[] #[]:=Eq.trans rfl rfl
def zwW:put s (some d) v=upd s d v:=Eq.trans rfl rfl
def zwX:put s none v=s:=Eq.trans rfl rfl
def zwY {c:Bool}:lit s (.tmp t) c=upd s t (.bool c):=Eq.trans rfl rfl
def zwZ {α:Type} {q:α} {r:List α}:nth (q :: r) 0=some q:=Eq.trans rfl rfl
def zw0 {α:Type} {q:α} {r:List α}:nth (q :: r) (n+1)=nth r n:=Eq.trans rfl rfl
def nD:Option Value->Value
 | some v=>v
 | none=>undef
def zCC {r:List Value}:zCj r t=nD (nth r t):=by unfold zCj;cases nth r t<;>rfl
def zBh:nD (some v)=v:=Eq.trans rfl rfl
def zw1:zeT P ext ol fl E [] s w=E s w:=Eq.trans rfl rfl
def zw2 {r:List Nat}:zeT P ext ol fl E (i :: r) s w=zfZ P ext ol fl i s w (zeT P ext ol fl E r):=Eq.trans rfl rfl
def S3 (P:Program) (ext:Xt) (o:Oper) (flag:Bool) (s:Env) (w:World) (E:Env->World->Prop) (d:Nat) (want:Bool):Option (Option (Nat×Bool))->Prop
 | some (some _)=>zCA (s d)
         (if want=true then opF P ext o flag (upd s d (.bool true)) w E else E (put (upd s d (.bool true)) o.dst undef) w)
         (if want=true then E (put (upd s d (.bool false)) o.dst undef) w else opF P ext o flag (upd s d (.bool false)) w E)
         (E (put (upd s d undef) o.dst undef) w)
 | _=>BRq (s d)
         (if want=true then opF P ext o flag (upd s d (.bool true)) w E else E (put (upd s d (.bool true)) o.dst undef) w)
         (if want=true then E (put (upd s d (.bool false)) o.dst undef) w else opF P ext o flag (upd s d (.bool false)) w E)
def S2 (P:Program) (ext:Xt) (ol:List Oper) (j:Nat) (o:Oper) (flag:Bool) (s:Env) (w:World) (E:Env->World->Prop) (want:Bool):Option Nat->Prop
 | none=>False
 | some d=>S3 P ext o flag s w E d want (match (nth ol j).bind (·.guard) with | none=>none | some q=>some (some q))
def S1 (P:Program) (ext:Xt) (ol:List Oper) (fl i:Nat) (s:Env) (w:World) (E:Env->World->Prop) (o:Oper):Option (Nat×Bool)->Prop
 | none=>opF P ext o (zbB fl i) s w E
 | some (j,want)=>S2 P ext ol j o (zbB fl i) s w E want ((nth ol j).bind (·.dst))
def S0 (P:Program) (ext:Xt) (ol:List Oper) (fl i:Nat) (s:Env) (w:World) (E:Env->World->Prop):Option Oper->Prop
 | none=>False
 | some o=>S1 P ext ol fl i s w E o o.guard
theorem zCD:zfZ P ext ol fl i s w E=S0 P ext ol fl i s w E (nth ol i):=by
 unfold zfZ S0;cases h:nth ol i with
 | none=>rfl
 | some o=>
   simp only [S1];cases hg:o.guard with
   | none=>rfl
   | some q=>
     obtain ⟨j,g0⟩:=q;simp only [S2];cases hd:(nth ol j).bind (·.dst) with
     | none=>rfl
     | some d=>
       simp only;cases h2:(nth ol j).bind (·.guard) with
       | none=>simp only [S3,zhe,BRq,zCA]
       | some q=>simp only [S3,zhe,BRq,zCA]
def Ef (w w':World):Option (Nat->Prop)->Prop
 | none=>Ext w w'
 | some X=>ExtX X w w'
def zD2 {g0:Bool}:opF P ext o g0 s w E=opK P ext o (ev s) w (λv w'=>if g0=true then Ef w w' ext.X/\E (put s o.dst v) w' else E (put s o.dst v) w'):=by
 unfold opF;congr 1;funext v w';rw [zhe];cases hx:ext.X<;>rfl
def Rq (P:Program) (m:Sem Value) (w:World) (K:Value->Prop):Option (Nat->Prop)->Prop
 | none=>RD P m w K
 | some X=>RDX P X m w K
variable {dst:Option Nat} {ty ty2:TypeId} {pos:String} {af:Array Edge} {gu:Option (Nat×Bool)} {aa:Array Operand} {ts:Array TypeId} {ps:Array (Nat×Operand)} {f:FuncId}
def zw3:opK P ext ⟨dst,.move x,ty,pos,af,gu⟩ ρ w J=J (ρ x) w:=Eq.trans rfl rfl
def zp7:opK P ext ⟨dst,.assign x,ty,pos,af,gu⟩ ρ w J=J (ρ x) w:=Eq.trans rfl rfl
def zw4:opK P ext ⟨dst,.pick x y z,ty,pos,af,gu⟩ ρ w J=BRq (ρ x) (J (ρ y) w) (J (ρ z) w):=Eq.trans rfl rfl
def zBi:opK P ext ⟨dst,.nilCheck x,ty,pos,af,gu⟩ ρ w J=NIL (ρ x) (J (ρ x) w):=Eq.trans rfl rfl
def ztp:opK P ext ⟨dst,.alloc t,ty,pos,af,gu⟩ ρ w J=OP P (Instr.alloc t true (.tuple #[])) w J:=Eq.trans rfl rfl
def zBj:opK P ext ⟨dst,.box t x,ty,pos,af,gu⟩ ρ w J=OP P (Instr.box t (ρ x)) w J:=Eq.trans rfl rfl
def zp8:opK P ext ⟨dst,.buildSlice t n ps,ty,pos,af,gu⟩ ρ w J=OP P (Instr.buildSlice t n (prs ρ ps.toList).toArray) w J:=Eq.trans rfl rfl
def ztq:opK P ext ⟨dst,.store t x y,ty,pos,af,gu⟩ ρ w J=OPU P (Instr.storeAt t (ρ x) (ρ y)) w (J undef):=Eq.trans rfl rfl
def zp9:opK P ext ⟨dst,.makeSlice t x y,ty,pos,af,gu⟩ ρ w J=OP P (Instr.makeSlice t (ρ x) (ρ y)) w J:=Eq.trans rfl rfl
def zw5:opK P ext ⟨dst,.call { callee:=.value (.func f),args:=aa,argTypes:=ts },ty,pos,af,gu⟩ ρ w J=if ext.l.elem f=true then OPN P (callFunc f (aa.toList.map ρ).toArray) w J else CALL P f (aa.toList.map ρ) w J:=by unfold opK;simp only [zhe]
def zw6:opK P ext ⟨dst,.call { callee:=.value (.tmp t),args:=aa,argTypes:=ts },ty,pos,af,gu⟩ ρ w J=OPN P (zrK (ρ (.tmp t)) (aa.toList.map ρ)) w J:=Eq.trans rfl rfl
def znB:opK P ext ⟨dst,.call { callee:=.builtin .append,args:=aa,argTypes:=ts },ty,pos,af,gu⟩ ρ w J=OP P (Builtin.append_ ts ty (aa.toList.map ρ).toArray) w J:=Eq.trans rfl rfl
def zqa:opK P ext ⟨dst,.call { callee:=.builtin .clear,args:=aa,argTypes:=ts },ty,pos,af,gu⟩ ρ w J=OP P (Builtin.clear_ ts ty (aa.toList.map ρ).toArray) w J:=Eq.trans rfl rfl
def zw7:opK P ext ⟨dst,.call { callee:=.builtin .len,args:=aa,argTypes:=ts },ty,pos,af,gu⟩ ρ w J=Rq P (Builtin.len_ ts ty (aa.toList.map ρ).toArray) w (λv=>J v w) ext.X:=by unfold opK;simp only [zdQ];cases hx:ext.X<;>rfl
def zw8:opK P ext ⟨dst,.call { callee:=.builtin .min,args:=aa,argTypes:=ts },ty,pos,af,gu⟩ ρ w J=Rq P (Builtin.min_ ts ty (aa.toList.map ρ).toArray) w (λv=>J v w) ext.X:=by unfold opK;simp only [zdQ];cases hx:ext.X<;>rfl
def zw9:opK P ext ⟨dst,.call { callee:=.builtin .max,args:=aa,argTypes:=ts },ty,pos,af,gu⟩ ρ w J=Rq P (Builtin.max_ ts ty (aa.toList.map ρ).toArray) w (λv=>J v w) ext.X:=by unfold opK;simp only [zdQ];cases hx:ext.X<;>rfl
def ztr:opK P ext ⟨dst,.build t ps,ty,pos,af,gu⟩ ρ w J=Rq P (Instr.build t (prs ρ ps.toList).toArray) w (λv=>J v w) ext.X:=by unfold opK;simp only [zdQ];cases hx:ext.X<;>rfl
def zxa:opK P ext ⟨dst,.load t x,ty,pos,af,gu⟩ ρ w J=Rq P (Instr.loadAt t (ρ x)) w (λv=>J v w) ext.X:=by unfold opK;simp only [zdQ];cases hx:ext.X<;>rfl
def zBk {bo:BinOp}:opK P ext ⟨dst,.binOp bo t x y ty2,ty,pos,af,gu⟩ ρ w J=Rq P (bin bo t (isC x) (isC y) (ρ x) (ρ y)) w (λv=>J v w) ext.X:=by unfold opK;simp only [zdQ];cases hx:ext.X<;>rfl
def zD3 {uo:UnOp}:opK P ext ⟨dst,.unOp uo t x,ty,pos,af,gu⟩ ρ w J=Rq P (Op.unary uo (ρ x)) w (λv=>J v w) ext.X:=by unfold opK;simp only [zdQ];cases hx:ext.X<;>rfl
def zxb:opK P ext ⟨dst,.convert n t x,ty,pos,af,gu⟩ ρ w J=Rq P (convert n t (ρ x)) w (λv=>J v w) ext.X:=by unfold opK;simp only [zdQ];cases hx:ext.X<;>rfl
def zxc {fq:Fn} {g0:Array Operand}:opK P ext ⟨dst,.makeFunc fq aa g0,ty,pos,af,gu⟩ ρ w J=Rq P (Instr.makeFunc fq (aa.toList.map ρ).toArray (g0.toList.map ρ).toArray) w (λv=>J v w) ext.X:=by unfold opK;simp only [zdQ];cases hx:ext.X<;>rfl
def zD4 {lo hi mx:Option Operand}:opK P ext ⟨dst,.slice t x lo hi mx,ty,pos,af,gu⟩ ρ w J=Rq P (Instr.sliceAt t (ρ x) (lo.map ρ) (hi.map ρ) (mx.map ρ)) w (λv=>J v w) ext.X:=by unfold opK;simp only [zdQ];cases hx:ext.X<;>rfl
def zD5:opK P ext ⟨dst,.fieldAddr t x i,ty,pos,af,gu⟩ ρ w J=Rq P (Instr.fieldAt t (ρ x) i) w (λv=>J v w) ext.X:=by unfold opK;simp only [zdQ];cases hx:ext.X<;>rfl
def zD6:opK P ext ⟨dst,.indexAddr t x y,ty,pos,af,gu⟩ ρ w J=Rq P (Instr.indexAt t (ρ x) (ρ y)) w (λv=>J v w) ext.X:=by unfold opK;simp only [zdQ];cases hx:ext.X<;>rfl
def zD7:opK P ext ⟨dst,.index t x y,ty,pos,af,gu⟩ ρ w J=Rq P (Instr.index t (ρ x) (ρ y)) w (λv=>J v w) ext.X:=by unfold opK;simp only [zdQ];cases hx:ext.X<;>rfl
def zBl:opK P ext ⟨dst,.extract x i,ty,pos,af,gu⟩ ρ w J=Rq P (Instr.extract (ρ x) i) w (λv=>J v w) ext.X:=by unfold opK;simp only [zdQ];cases hx:ext.X<;>rfl
@[congr] theorem zEM {q q':List Nat} (h:q=q'):zeT P ext ol fl E q s w=zeT P ext ol fl E q' s w:=by rw [h]
@[congr] theorem zEV {k:List Value->Prop} {q q':List ResultVar} (h:q=q'):zrM P s w q k=zrM P s w q' k:=by rw [h]
@[congr] theorem zFq {q q':Option (Nat×List Nat)} (h:q=q'):Jn P g a b s w K q=Jn P g a b s w K q':=by rw [h]
@[congr] theorem zFr {q q':Option (Nat×List Nat)} (h:q=q'):Lp P g a s w K q=Lp P g a s w K q':=by rw [h]
@[congr] theorem zFs {q q':Option Nat} (h:q=q'):R1 P g id ol s w E q=R1 P g id ol s w E q':=by rw [h]
@[congr] theorem zFt {q q':Option (Nat×Nat)} (h:q=q'):R2 P g id ol s w E q=R2 P g id ol s w E q':=by rw [h]
@[congr] theorem zFu {q q':Option (List Nat×Nat)} (h:q=q'):R3 P g id ol s w E q=R3 P g id ol s w E q':=by rw [h]
@[congr] theorem zFv {q q':Option Oper} (h:q=q'):S0 P ext ol fl i s w E q=S0 P ext ol fl i s w E q':=by rw [h]
@[congr] theorem zFw {q q':Option (Nat×Bool)} (h:q=q'):S1 P ext ol fl i s w E o q=S1 P ext ol fl i s w E o q':=by rw [h]
@[congr] theorem zFx {j:Nat} {flag want:Bool} {q q':Option Nat} (h:q=q'):S2 P ext ol j o flag s w E want q=S2 P ext ol j o flag s w E want q':=by rw [h]
@[congr] theorem zFy {flag want:Bool} {q q':Option (Option (Nat×Bool))} (h:q=q'):S3 P ext o flag s w E d want q=S3 P ext o flag s w E d want q':=by rw [h]
@[congr] theorem zFz {m:Sem Value} {k:Value->Prop} {q q':Option (Nat->Prop)} (h:q=q'):Rq P m w k q=Rq P m w k q':=by rw [h]
@[congr] theorem zFA {q q':Option Nat} (h:q=q'):FR q a=FR q' a:=by rw [h]
@[congr] theorem zFc {α:Type} {l:List α} {q q':Nat} (h:q=q'):nth l q=nth l q':=by rw [h]
theorem zBm {L:List Nat}:Jn P g a b s w K (some (m,L))=JOIN L (λJ=>vc P g a s w (zkX K λs' w'=>J (L.map s') w')) (λu w'=>vc P g b (mix m s u) w' K):=Eq.trans rfl rfl
def zBn:Jn P g a b s w K none=vc P g a s w (zkX K λs' w'=>vc P g b s' w' K):=Eq.trans rfl rfl
def zBo {L:List Nat}:Lp P g a s w K (some (m,L))=LOOPI L (L.map s) w λu w' next=>vc P g a (mix m s u) w' (zkX K λs' w''=>next (L.map s') w''):=Eq.trans rfl rfl
def zBp:R1 P g id ol s w E (some m)=zzq P ⟨g.ext,none⟩ ol m s w E:=Eq.trans rfl rfl
def zBq:R1 P g id ol s w E none=R2 P g id ol s w E (find g.pars id):=Eq.trans rfl rfl
def zBr:R2 P g id ol s w E (some (m,n))=zEK P ⟨g.ext,none⟩ ol m n s w E:=Eq.trans rfl rfl
def zBs:R2 P g id ol s w E none=R3 P g id ol s w E (find g.draws id):=Eq.trans rfl rfl
def zBt:R3 P g id ol s w E (some (l,fl))=if g.xs.elem id=true then XR (λX=>zeT P ⟨g.ext,some X⟩ ol fl E l s w) else zeT P ⟨g.ext,none⟩ ol fl E l s w:=Eq.trans rfl rfl
def zBu:S0 P ext ol fl i s w E (some o)=S1 P ext ol fl i s w E o o.guard:=Eq.trans rfl rfl
def zBv:S1 P ext ol fl i s w E o none=opF P ext o (zbB fl i) s w E:=Eq.trans rfl rfl
def zBw {j:Nat} {want:Bool}:S1 P ext ol fl i s w E o (some (j,want))=S2 P ext ol j o (zbB fl i) s w E want ((nth ol j).bind (·.dst)):=Eq.trans rfl rfl
def zD8 {j:Nat} {flag want:Bool}:S2 P ext ol j o flag s w E want (some d)=S3 P ext o flag s w E d want (match (nth ol j).bind (·.guard) with | none=>none | some q=>some (some q)):=Eq.trans rfl rfl
def zBx {flag want:Bool}:S3 P ext o flag s w E d want none=BRq (s d)
         (if want=true then opF P ext o flag (upd s d (.bool true)) w E else E (put (upd s d (.bool true)) o.dst undef) w)
         (if want=true then E (put (upd s d (.bool false)) o.dst undef) w else opF P ext o flag (upd s d (.bool false)) w E):=Eq.trans rfl rfl
def zBy {flag want:Bool} {q:Nat×Bool}:S3 P ext o flag s w E d want (some (some q))=zCA (s d)
         (if want=true then opF P ext o flag (upd s d (.bool true)) w E else E (put (upd s d (.bool true)) o.dst undef) w)
         (if want=true then E (put (upd s d (.bool false)) o.dst undef) w else opF P ext o flag (upd s d (.bool false)) w E)
         (E (put (upd s d undef) o.dst undef) w):=Eq.trans rfl rfl
def zBz {w':World}:Ef w w' none=Ext w w':=Eq.trans rfl rfl
def zBA {w':World} {X:Nat->Prop}:Ef w w' (some X)=ExtX X w w':=Eq.trans rfl rfl
def zBB {q:Sem Value} {k:Value->Prop}:Rq P q w k none=RD P q w k:=Eq.trans rfl rfl
def zBC {q:Sem Value} {k:Value->Prop} {X:Nat->Prop}:Rq P q w k (some X)=RDX P X q w k:=Eq.trans rfl rfl
def zBD:FR (some i) a=some i:=Eq.trans rfl rfl
def zBE:FR none a=zaI a:=Eq.trans rfl rfl
def zD9 {fn:Func} {c:Code} {rs:List ResultVar} {aa:List Value} {R:Value->World->Prop} (h:fn.body=some c) (h2:fn.results=rs.toArray):vcF P g fn aa w R=vc P g c (zCj aa) w (zDL P rs R):=by unfold vcF;rw [h,h2]
end
end Go.Sh
namespace Go.Proofs.YtcnglfeoglgebaaGreat
open Go Go.Sh Go.Proofs
open Rep (rep)
variable {K:Value->Prop} {P:Program} {n:Nat} {w:World}
def extL:List Nat:=[0,1,344,345,346,347,348,349,350,351,352,353,354,355,356,357,358,359]
set_option maxRecDepth 100000 in
theorem zEa:((List.range 360).all λf=>extL.elem f || zfx Tryz.prog f)=true:=by kernel_rfl
def ent:∀ f,f<360->extL.elem f=false->zfx Tryz.prog f=true:=λf hf hx=>by
 have:=qaI.1 zEa f (qaw.2 hf);rw [hx,qc6] at this;exact this
def mixed:Tryz.prog.follows .mixedOrders=true:=by kernel_rfl
end Go.Proofs.YtcnglfeoglgebaaGreat
namespace Go.Sh
abbrev VW:=Value->World->Prop
end Go.Sh
namespace Go.Proofs.YtcnglfeoglgebaaGreat
open Go Go.Sh Go.Proofs
open Rep (rep)
variable {K:Value->Prop} {P:Program} {n:Nat} {w:World}
noncomputable abbrev tp:Program:=Tryz.prog
def zbt {u:Nat->Value} {a:Nat} {x:Value} (h:[a].map u=[x]):u a=x:=by simpa using h
def zcB {u:Nat->Value} {a b:Nat} {x y:Value} (h:[a,b].map u=[x,y]):u a=x/\u b=y:=by simpa using h
def zEN {u:Nat->Value} {a b c:Nat} {x y z:Value} (h:[a,b,c].map u=[x,y,z]):u a=x/\u b=y/\u c=z:=by simpa using h
def zau {t:TypeId} {x y:Operand} (k:K (.int .i64 ((n+1:Nat):Int))) (h:n<9223372036854775807:=by omega):RD P (bin .add t x y (.int .i64 (n:Int)) (.int .i64 1)) w K:=zDN h k
def kf (j l:List (Nat×Nat×List Nat)) (d:List (Nat×List Nat×Nat)):Cfg:=⟨extL,j,l,d,[],[],[]⟩
set_option maxRecDepth 100000 in
theorem co {g:Cfg} {f:FuncId} {fn:Func} {args:List Value} {R:VW} {c:Code} {rs:List ResultVar} {F:(VW)->Prop} (hf:tp.funcs[f]?=some fn) (h:F R) (hb:fn.body=some c:=by rfl) (hr:fn.results=rs.toArray:=by rfl)
    (hl:args.length.ble fn.ntmps=true:=by kernel_rfl) (hok:okF g 360 fn=true:=by kernel_rfl) (e:∀ R:VW,vc tp g c (zCj args) w (zDL tp rs R)=F R:=by (intro R;simp (config := { maxSteps := 10000000 }) only [↓zCw,↓zDX,↓zCx,↓zDY,↓zD1,↓zzJ,↓zCy,↓zCz,↓zDZ,↓zA4,↓zA5,↓zA6,↓zA7,↓zA8,↓zA9,↓zBa,↓ztk,↓ztl,↓ztm,↓ztn,↓zto,↓zBb,↓zBc,↓zBd,↓zwO,↓zwP,↓zwQ,↓zwR,↓zwS,↓zwT,↓zwU,↓zwV,↓zBe,↓zBf,↓zBg,↓zwW,↓zwX,↓zwY,↓zwZ,↓zw0,↓zCC,↓zBh,↓zw1,↓zw2,↓zCD,↓zD2,↓zhe,↓zDV,↓zDW,↓zw3,↓zp7,↓zw4,↓zBi,↓ztp,↓zBj,↓zp8,↓ztq,↓zp9,↓zw5,↓zw6,↓znB,↓zqa,↓zw7,↓zw8,↓zw9,↓ztr,↓zxa,↓zBk,↓zD3,↓zxb,↓zxc,↓zD4,↓zD5,↓zD6,↓zD7,↓zBl,↓zBm,↓zBn,↓zBo,↓zBp,↓zBq,↓zBr,↓zBs,↓zBt,↓zBu,↓zBv,↓zBw,↓zD8,↓zBx,↓zBy,↓zBz,↓zBA,↓zBB,↓zBC,↓zBD,↓zBE,↓zA1,↓zA2,↓zwL,↓zwM,↓zA3,↓zwN,zA4,zA5,zA6,zA7,zA8,zA9,zBa,ztk,ztl,ztm,ztn,zto,zBb,zBc,zBd,zwO,zwP,zwQ,zwR,zwS,zwT,zwU,zwV,zBe,zBf,zBg,zwW,zwX,zwY,zwZ,zw0,zBh,zw1,zw2,zw3,zp7,zw4,zBi,ztp,zBj,zp8,ztq,zp9,zw5,zw6,znB,zqa,zw7,zw8,zw9,ztr,zxa,zBk,zD3,zxb,zxc,zD4,zD5,zD6,zD7,zBl,zBm,zBn,zBo,zBp,zBq,zBr,zBs,zBt,zBu,zBv,zBw,zD8,zBx,zBy,zBz,zBA,zBB,zBC,zBD,zBE,zA1,zA2,zwL,zwM,zA3,zwN,zD0,zCB,ztj,zr2,zzH,zzI,Nat.reduceEqDiff,Nat.reduceShiftRight,Nat.reduceMod,Option.bind,Option.map,qbC,qb4,List.range,List.range.loop,List.size_toArray,qaj,qay,Nat.reduceAdd,qa9,kf,extL,zEK,zzq,zh9,zop,onL,onD,zCk,zpR,zm7,ziI,zgu,zkv,zf0,List.take,List.drop,Region.binds,zfN,prs,isC,↓reduceIte,or_false,false_or,or_true,true_or,qa1,reduceCtorEq];exact rfl)) (hg:g.ext=extL:=by rfl):CALL tp f args w R:=
  zCq (hg▸ent) mixed hf (qbp hl) hok (by rw [zD9 hb hr,e R];exact h)
end Go.Proofs.YtcnglfeoglgebaaGreat
namespace Go.Proofs.YtcnglfeoglgebaaGreat
open Go Go.Sh Go.Proofs
variable {K:Value->Prop} {P:Program} {W0 w w0:World} {a:Int} {k n:Nat} {s:DState} {v v0:Value}
def zzK:tyI tp 3=some (1,8,false):=by kernel_rfl
def zEb:(tp.info? 3).map (λi=>(i.zero.map (·.cells.size)))=some (some 1):=by kernel_rfl
def zuU:tp.underlying 33=some (.slice 3):=by kernel_rfl
def cnt (k:Int) (n:Nat):List Int:=(List.range n).map λi:Nat=>k+(i:Int)
def zts {l:List Int} (h:Is w0 v l) (hx:Ext w0 w) (hn:l.length<=1073741824) :
   CALL tp 157 [v] w λr w'=>Ext w w'/\Own w.heap.size w' r l:=by
 refine co (g:=kf [] [] []) Tryz.func157 ?_;obtain ⟨a,cap,Fi,xs,rfl,h1,h2,hc,h4⟩:=zcT h;refine zhd zuU<|zbz (λg0=>?_) (λhnn=>?_)
 . have:l=[]:=by
     rcases h4 with h4 | ⟨b,o,ha,_⟩
     . exact h4
     subst ha;simp at g0
   subst this;exact ⟨xrf w,zfP rfl⟩
 refine ziQ (α:=Int) zuU zzK λa1 w1 g1 g2=>zoy zuU zzK zEb g2 h (hx.t g1) g1.size oo λv2 w2 g3 g4=>⟨g1.t g3,g4.own⟩
def ty2:tyI tp 2=some (1,8,false):=by kernel_rfl
def u2:tp.underlying 2=some (TypeDesc.int IntKind.i64):=by kernel_rfl
def z2:zb1 tp 2=true:=by kernel_rfl
def ty3:tyI tp 3=some (1,8,false):=by kernel_rfl
def u3:tp.underlying 3=some (TypeDesc.int IntKind.i64):=by kernel_rfl
def z3:zb1 tp 3=true:=by kernel_rfl
def zc3:(tp.info? 3).map (λi=>(i.zero.map (·.cells.size)))=some (some 1):=by kernel_rfl
def ty4:tyI tp 4=some (1,1,false):=by kernel_rfl
def u4:tp.underlying 4=some TypeDesc.bool:=by kernel_rfl
def z4:zb1 tp 4=true:=by kernel_rfl
def zc4:(tp.info? 4).map (λi=>(i.zero.map (·.cells.size)))=some (some 1):=by kernel_rfl
def ty5:tyI tp 5=some (1,1,false):=by kernel_rfl
def u5:tp.underlying 5=some (TypeDesc.int IntKind.u8):=by kernel_rfl
def z5:zb1 tp 5=true:=by kernel_rfl
def u6:tp.underlying 6=some (TypeDesc.int IntKind.u8):=by kernel_rfl
def ty9:tyI tp 9=some (1,16,false):=by kernel_rfl
def u9:tp.underlying 9=some TypeDesc.string:=by kernel_rfl
def z9:zb1 tp 9=true:=by kernel_rfl
def zc9:(tp.info? 9).map (λi=>(i.zero.map (·.cells.size)))=some (some 1):=by kernel_rfl
def u10:tp.underlying 10=some TypeDesc.string:=by kernel_rfl
def u11:tp.underlying 11=some TypeDesc.string:=by kernel_rfl
def zFd:tyI tp 22=some (1,24,false):=by kernel_rfl
def u22:tp.underlying 22=some (TypeDesc.slice 5):=by kernel_rfl
def z22:zb1 tp 22=true:=by kernel_rfl
def zcv:tyI tp 24=some (1,24,false):=by kernel_rfl
def u24:tp.underlying 24=some (TypeDesc.slice 9):=by kernel_rfl
def z24:zb1 tp 24=true:=by kernel_rfl
def zr3:tyI tp 25=some (1,24,false):=by kernel_rfl
def u25:tp.underlying 25=some (TypeDesc.slice 32):=by kernel_rfl
def z25:zb1 tp 25=true:=by kernel_rfl
def zqb:tyI tp 27=some (3,72,true):=by kernel_rfl
def zFe:zcz tp 27=some [.slice none 0 0,.slice none 0 0,.slice none 0 0]:=by kernel_rfl
def znC:zdP tp 27 0=some 0:=by kernel_rfl
def zqc:zdP tp 27 1=some 1:=by kernel_rfl
def zfg:zdP tp 27 2=some 2:=by kernel_rfl
def ziT:tyI tp 29=some (1,24,false):=by kernel_rfl
def u29:tp.underlying 29=some (TypeDesc.slice 56):=by kernel_rfl
def zBF:tyI tp 32=some (2,40,true):=by kernel_rfl
def z32:zb1 tp 32=true:=by kernel_rfl
def zFB:(tp.info? 32).map (λi=>(i.zero.map (·.cells.size)))=some (some 2):=by kernel_rfl
def ztt:zdP tp 32 0=some 0:=by kernel_rfl
def zxd:zdP tp 32 1=some 1:=by kernel_rfl
def za4:tyI tp 33=some (1,24,false):=by kernel_rfl
def u33:tp.underlying 33=some (TypeDesc.slice 3):=by kernel_rfl
def z33:zb1 tp 33=true:=by kernel_rfl
def zBG:(tp.info? 33).map (λi=>(i.zero.map (·.cells.size)))=some (some 1):=by kernel_rfl
def zcQ:tyI tp 34=some (1,24,false):=by kernel_rfl
def u34:tp.underlying 34=some (TypeDesc.slice 84):=by kernel_rfl
def zbq:tyI tp 36=some (5,120,true):=by kernel_rfl
def zCE:zcz tp 36=some [.slice none 0 0,.slice none 0 0,.slice none 0 0,.slice none 0 0,.slice none 0 0]:=by kernel_rfl
def zdI:zdP tp 36 0=some 0:=by kernel_rfl
def zd8:zdP tp 36 1=some 1:=by kernel_rfl
def zbG:zdP tp 36 2=some 2:=by kernel_rfl
def zbi:zdP tp 36 3=some 3:=by kernel_rfl
def zaM:zdP tp 36 4=some 4:=by kernel_rfl
def u39:tp.underlying 39=some (TypeDesc.slice 58):=by kernel_rfl
def z39:zb1 tp 39=true:=by kernel_rfl
def zeN:tyI tp 44=some (1,24,false):=by kernel_rfl
def u44:tp.underlying 44=some (TypeDesc.slice 33):=by kernel_rfl
def z45:zb1 tp 45=true:=by kernel_rfl
def zc0:tyI tp 46=some (3,72,true):=by kernel_rfl
def z46:zb1 tp 46=true:=by kernel_rfl
def zFf:zcz tp 46=some [.slice none 0 0,.slice none 0 0,.slice none 0 0]:=by kernel_rfl
def zfh:zdP tp 46 0=some 0:=by kernel_rfl
def zdy:zdP tp 46 1=some 1:=by kernel_rfl
def zbj:zdP tp 46 2=some 2:=by kernel_rfl
def ziH:tyI tp 51=some (1,24,false):=by kernel_rfl
def u51:tp.underlying 51=some (TypeDesc.slice 53):=by kernel_rfl
def zdj:tyI tp 53=some (4,56,true):=by kernel_rfl
def z53:zb1 tp 53=true:=by kernel_rfl
def zFC:(tp.info? 53).map (λi=>(i.zero.map (·.cells.size)))=some (some 4):=by kernel_rfl
def zFD:tp.underlying 53=some (TypeDesc.struct (Array.mk [Field.mk "Kind" 3 0 false "" "" 0,Field.mk "Num" 3 1 false "" "" 8,Field.mk "Name" 9 2 false "" "" 16,Field.mk "Kids" 51 3 false "" "" 32])):=by kernel_rfl
def zDA:zcz tp 53=some [.int .i64 0,.int .i64 0,.string ByteArray.empty,.slice none 0 0]:=by kernel_rfl
def zeO:zdP tp 53 0=some 0:=by kernel_rfl
def zf7:zdP tp 53 1=some 1:=by kernel_rfl
def zfi:zdP tp 53 2=some 2:=by kernel_rfl
def zcp:zdP tp 53 3=some 3:=by kernel_rfl
def z55:zb1 tp 55=true:=by kernel_rfl
def ze6:tyI tp 56=some (8,128,true):=by kernel_rfl
def z56:zb1 tp 56=true:=by kernel_rfl
def zDB:(tp.info? 56).map (λi=>(i.zero.map (·.cells.size)))=some (some 8):=by kernel_rfl
def zEc:zcz tp 56=some [.int .i64 0,.string ByteArray.empty,.int .i64 0,.int .i64 0,.string ByteArray.empty,.slice none 0 0,.slice none 0 0,.slice none 0 0]:=by kernel_rfl
def zic:zdP tp 56 0=some 0:=by kernel_rfl
def zey:zdP tp 56 1=some 1:=by kernel_rfl
def zkz:zdP tp 56 2=some 2:=by kernel_rfl
def zg4:zdP tp 56 3=some 6:=by kernel_rfl
def zfA:zdP tp 56 4=some 7:=by kernel_rfl
def zd9:tyI tp 58=some (3,24,true):=by kernel_rfl
def z58:zb1 tp 58=true:=by kernel_rfl
def zCF:(tp.info? 58).map (λi=>(i.zero.map (·.cells.size)))=some (some 3):=by kernel_rfl
def zEW:zcz tp 58=some [.int .i64 0,.int .i64 0,.int .i64 0]:=by kernel_rfl
def znD:zdP tp 58 0=some 0:=by kernel_rfl
def znE:zdP tp 58 1=some 1:=by kernel_rfl
def ztu:zdP tp 58 2=some 2:=by kernel_rfl
def zcL:tyI tp 84=some (7,80,true):=by kernel_rfl
def z84:zb1 tp 84=true:=by kernel_rfl
def zFE:(tp.info? 84).map (λi=>(i.zero.map (·.cells.size)))=some (some 7):=by kernel_rfl
def zqd:zcz tp 84=some [.int .i64 0,.int .i64 0,.int .i64 0,.int .i64 0,.string ByteArray.empty,.slice none 0 0,.int .i64 0]:=by kernel_rfl
def zbp:zdP tp 84 0=some 0:=by kernel_rfl
def za8:zdP tp 84 1=some 1:=by kernel_rfl
def zeP:zdP tp 84 2=some 2:=by kernel_rfl
def zea:zdP tp 84 3=some 6:=by kernel_rfl
def zgt:tyI tp 90=some (1,24,false):=by kernel_rfl
def u90:tp.underlying 90=some (TypeDesc.slice 4):=by kernel_rfl
def z90:zb1 tp 90=true:=by kernel_rfl
def zEX:(tp.info? 90).map (λi=>(i.zero.map (·.cells.size)))=some (some 1):=by kernel_rfl
def zbM:zdP tp 92 0=some 0:=by kernel_rfl
def ztv:zdP tp 92 1=some 5:=by kernel_rfl
def ztw:zdP tp 92 2=some 6:=by kernel_rfl
def zxe:zdP tp 92 3=some 7:=by kernel_rfl
def zqe:zdP tp 92 4=some 8:=by kernel_rfl
def zlB:zdP tp 92 5=some 9:=by kernel_rfl
def zlC:zdP tp 92 6=some 10:=by kernel_rfl
def zkA:tp.underlying 105=some (TypeDesc.int IntKind.u64):=by kernel_rfl
def zxf:zdP tp 125 0=some 0:=by kernel_rfl
def zoC:zdP tp 125 1=some 1:=by kernel_rfl
def zoD:zdP tp 125 2=some 2:=by kernel_rfl
def zqf:tyI tp 133=some (1,24,false):=by kernel_rfl
def zm8:tp.underlying 133=some (TypeDesc.slice 138):=by kernel_rfl
def zdc:tyI tp 138=some (4,32,true):=by kernel_rfl
def zEO:zb1 tp 138=true:=by kernel_rfl
def zuV:(tp.info? 138).map (λi=>(i.zero.map (·.cells.size)))=some (some 4):=by kernel_rfl
def zuW:zcz tp 138=some [.int .i64 0,.int .i64 0,.bool false,.int .i64 0]:=by kernel_rfl
def zfQ:zdP tp 138 0=some 0:=by kernel_rfl
def zjI:zdP tp 138 1=some 1:=by kernel_rfl
def zoE:zdP tp 138 2=some 2:=by kernel_rfl
def zjJ:zdP tp 138 3=some 3:=by kernel_rfl
def znF:tp.underlying 157=some (TypeDesc.slice 224):=by kernel_rfl
def zBH:tp.underlying 159=some (TypeDesc.slice 222):=by kernel_rfl
def zuX:tp.underlying 166=some (TypeDesc.slice 90):=by kernel_rfl
def zDC:tp.underlying 170=some (TypeDesc.slice 133):=by kernel_rfl
def zxg:tp.underlying 172=some (TypeDesc.slice 244):=by kernel_rfl
def zr4:zdP tp 207 0=some 0:=by kernel_rfl
def zij:zdP tp 207 1=some 3:=by kernel_rfl
def zqg:tyI tp 222=some (3,24,true):=by kernel_rfl
def zFg:zb1 tp 222=true:=by kernel_rfl
def zEd:(tp.info? 222).map (λi=>(i.zero.map (·.cells.size)))=some (some 3):=by kernel_rfl
def zEY:zcz tp 222=some [.int .i64 0,.int .i64 0,.int .i64 0]:=by kernel_rfl
def zoF:zdP tp 222 0=some 0:=by kernel_rfl
def zoG:zdP tp 222 1=some 1:=by kernel_rfl
def zxh:zdP tp 222 2=some 2:=by kernel_rfl
def zeH:tyI tp 224=some (2,16,true):=by kernel_rfl
def zFh:zb1 tp 224=true:=by kernel_rfl
def zEe:(tp.info? 224).map (λi=>(i.zero.map (·.cells.size)))=some (some 2):=by kernel_rfl
def zzL:zcz tp 224=some [.int .i64 0,.int .i64 0]:=by kernel_rfl
def zlD:zdP tp 224 0=some 0:=by kernel_rfl
def zlE:zdP tp 224 1=some 1:=by kernel_rfl
def zDD:tp.underlying 228=some (TypeDesc.slice 230):=by kernel_rfl
def zr5:tyI tp 230=some (1,8,false):=by kernel_rfl
def zik:zdP tp 235 1=some 5:=by kernel_rfl
def zgC:zdP tp 235 2=some 6:=by kernel_rfl
def zoH:zdP tp 235 3=some 7:=by kernel_rfl
def zm9:tyI tp 244=some (2,16,true):=by kernel_rfl
def zFi:zb1 tp 244=true:=by kernel_rfl
def zEf:(tp.info? 244).map (λi=>(i.zero.map (·.cells.size)))=some (some 2):=by kernel_rfl
def zxi:zdP tp 244 0=some 0:=by kernel_rfl
def zlF:zdP tp 244 1=some 1:=by kernel_rfl
def zCG {t:TypeId} {x y:Operand} {a b:Bool} (ht:P.underlying t=some .bool) (k:K (.bool (decide (a≠b)))):RD P (bin .neq t x y (.bool a) (.bool b)) w K:=
 zbb (λw' _=>by
   have:=run_neq_bool (P:=P) w' t a b ht;cases a<;>cases b<;>simp_all [bin,eqGuard]) k
def sm {α:Type} (f:α->Nat) (l:List α):Nat:=(l.map f).sum
theorem zEg {α:Type} (f:α->Nat) {l:List α} {x:α} (h:x∈l):f x<=sm f l:=by
 unfold sm
 induction l with
 | nil=>cases h
 | cons y l ih=>
   rw [qbC,qcT];rcases qaa.1 h with rfl | h
   . omega
   have:=ih h;omega
def l01In_ok {b:Int} {c:Int}    :
   CALL tp 197 [.int .i64 a,.int .i64 b,.int .i64 c] w λr w'=>Ext w w'/\(r=.bool (decide (b<=a/\a<=c))):=by
 refine co (g:=kf [] [] []) Tryz.func197 ?_;refine zcb<|br (λc1=>?_) (λc1=>?_)
 . refine zdT ?_
   refine ⟨xrf w,?_⟩;simp [c1]
 refine ⟨xrf w,?_⟩;simp [c1]
def zbu (s:DState) (t:Int):Int:=if h:0<=t/\t.toNat<s.stacks.length then (s.stacks[t.toNat]'h.2).getLastD (-1) else -1
def zlG {l:List Int} (h:l≠[]) (hi:((l.length:Int)-1).toNat<l.length):l[((l.length:Int)-1).toNat]'hi=l.getLastD (-1):=by
 have e:((l.length:Int)-1).toNat=l.length-1:=oo
 simp only [e];rw [List.getLastD_eq_getLast?,List.getLast?_eq_getElem?,List.getElem?_eq_getElem oo];rfl
def zr6 {t:Int}  (h0:Is W0 v0 s) (e0:Ext W0 w)  :
   CALL tp 168 [v0,.int .i64 t] w λr w'=>Ext w w'/\(r=.int .i64 (zbu s t)):=by
 refine co (g:=kf [] [] [(3,[0,1,2,3,4,5,6,7,8,9,10,11,12,13,14],0)]) Tryz.func168 ?_;refine zat zc0 rfl h0 e0 λg5 y1 g0 hV2=>zab zbj<|zaa zeN (zaJ g0) (xrf g5) λv7 h7=>?_;have g9:=zaj h7;refine zae u44 h7<|zbc (by unfold I64;omega) ?_;refine (l01In_ok ).mono ?_;rintro _ gb ⟨y2,rfl⟩;refine zav<|br (λc1=>?_) (λc1=>?_)
 . refine ⟨(y1.t y2),?_⟩
   unfold zbu;rw [dif_neg oo]
 refine zab zbj<|zaa zeN (zaJ g0) y2 λv14 gc=>zaL u44 za4 gc oo oo λb16 o16 gd=>zaa za4 gd y2 λv17 g1=>?_;have g2:=zaj g1;refine zae u33 g1<|zai<|br (λc2=>?_) (λc2=>?_)
 . refine ⟨(y1.t y2),?_⟩
   unfold zbu;rw [dif_pos oo];have:s.stacks[t.toNat]'(by omega)=[]:=qam oo;rw [this];rfl
 have y3:=zah gb;refine zab zbj<|zaa zeN (zaJ g0) (y2.t y3) λv22 gf=>zaL u44 za4 gf oo oo λb24 o24 gg=>zaa za4 gg (y2.t y3) λv25 gh=>zab zbj<|zaa zeN (zaJ g0) (y2.t y3) λv27 gi=>zaL u44 za4 gi oo oo λb29 o29 gj=>zaa za4 gj (y2.t y3) λv30 g3=>?_;have g4:=zaj g3;refine zae u33 g3<|zbc (by unfold I64;omega)<|zaL u33 ty3 gh oo oo λb33 o33 gl=>zac ty3 gl (y2.t y3) λgp=>⟨(y1.t (y2.t y3)),?_⟩;unfold zbu;rw [dif_pos oo];rw [zlG (λe=>by rw [e] at c2;simp at c2)]
def zgD {t:Int}  (h0:Is W0 v0 s) (e0:Ext W0 w)  :
   CALL tp 71 [v0,.int .i64 t] w λr w'=>Ext w w'/\(r=.int .i64 (zbu s t)):=by
 refine co (g:=kf [] [] [(3,[0,1,2,3,4,5,6,7,8,9,10,11,12,13,14],0)]) Tryz.func71 ?_;refine zat zc0 rfl h0 e0 λg0 y1 g1 hV2=>zag<|br (λc1=>?_) (λc1=>?_)
 . refine ⟨y1,?_⟩
   unfold zbu;rw [dif_neg oo]
 refine zab zbj<|zaa zeN (zaJ g1) (xrf g0) λv10 g2=>?_;have g3:=zaj g2;refine zae u44 g2<|zcb<|br (λc2=>?_) (λc2=>?_)
 . refine ⟨y1,?_⟩
   unfold zbu;rw [dif_neg oo]
 refine zab zbj<|zaa zeN (zaJ g1) (xrf g0) λv16 gc=>zaL u44 za4 gc oo oo λb18 o18 gd=>zaa za4 gd (xrf g0) λv19 g4=>?_;have g5:=zaj g4;refine zae u33 g4<|zai<|br (λc3=>?_) (λc3=>?_)
 . refine ⟨y1,?_⟩
   unfold zbu;rw [dif_pos oo];have:s.stacks[t.toNat]'(by omega)=[]:=qam oo;rw [this];rfl
 have y2:=zah g0;refine zab zbj<|zaa zeN (zaJ g1) y2 λv24 gf=>zaL u44 za4 gf oo oo λb26 o26 gg=>zaa za4 gg y2 λv27 gh=>zab zbj<|zaa zeN (zaJ g1) y2 λv29 gi=>zaL u44 za4 gi oo oo λb31 o31 gj=>zaa za4 gj y2 λv32 g9=>?_;have gb:=zaj g9;refine zae u33 g9<|zbc (by unfold I64;omega)<|zaL u33 ty3 gh oo oo λb35 o35 gl=>zac ty3 gl y2 λgp=>⟨(y1.t y2),?_⟩;unfold zbu;rw [dif_pos oo];rw [zlG (λe=>by rw [e] at c3;simp at c3)]
def zr7:zcz tp 46=some [.slice none 0 0,.slice none 0 0,.slice none 0 0]:=by kernel_rfl
def zpQ (b:UInt8):Bool:=decide ((97:Int)<=(b.toNat:Int)/\(b.toNat:Int)<=122)
def zuY (b:UInt8):Bool:=decide ((48:Int)<=(b.toNat:Int)/\(b.toNat:Int)<=57)
def zkY (s:ByteArray):Bool:=decide (s.size<=12)&&(bts s).head?.any zpQ&&(bts s).all (λb=>zpQ b || zuY b)
def kw:List ByteArray:=[.mk #[97,110,100],.mk #[99,97,108,108],.mk #[101,108,115,101],.mk #[103,108,111,98,97,108,115],.mk #[105,102],.mk #[108,111,99,107],.mk #[108,111,99,107,115],
 .mk #[110,111,116],.mk #[112,114,111,99],.mk #[115,107,105,112],.mk #[115,112,97,119,110],.mk #[117,110,108,111,99,107],.mk #[119,104,105,108,101]]
def zbF (s:ByteArray):Bool:=zkY s&&!decide (s∈kw)
def znG    :
   CALL tp 240 [.int .u8 (n:Int)] w λr w'=>Ext w w'/\(r=.bool (decide ((97:Int)<=(n:Int)/\(n:Int)<=122))):=by
 refine co (g:=kf [] [] []) Tryz.func240 ?_;refine zcb<|br (λc1=>?_) (λc1=>?_)
 . refine zdT ?_
   refine ⟨xrf w,?_⟩;simp [c1]
 refine ⟨xrf w,?_⟩;simp [c1]
def zr8    :
   CALL tp 241 [.int .u8 (n:Int)] w λr w'=>Ext w w'/\(r=.bool (decide ((48:Int)<=(n:Int)/\(n:Int)<=57))):=by
 refine co (g:=kf [] [] []) Tryz.func241 ?_;refine zcb<|br (λc1=>?_) (λc1=>?_)
 . refine zdT ?_
   refine ⟨xrf w,?_⟩;simp [c1]
 refine ⟨xrf w,?_⟩;simp [c1]
def zkB    :
   CALL tp 301 [.int .u8 (n:Int)] w λr w'=>Ext w w'/\(r=.bool (decide ((97:Int)<=(n:Int)/\(n:Int)<=122))):=by
 refine co (g:=kf [] [] []) Tryz.func301 ?_;refine zcb<|br (λc1=>?_) (λc1=>?_)
 . refine zdT ?_
   refine ⟨xrf w,?_⟩;simp [c1]
 refine ⟨xrf w,?_⟩;simp [c1]
def zqh    :
   CALL tp 303 [.int .u8 (n:Int)] w λr w'=>Ext w w'/\(r=.bool (decide ((48:Int)<=(n:Int)/\(n:Int)<=57))):=by
 refine co (g:=kf [] [] []) Tryz.func303 ?_;refine zcb<|br (λc1=>?_) (λc1=>?_)
 . refine zdT ?_
   refine ⟨xrf w,?_⟩;simp [c1]
 refine ⟨xrf w,?_⟩;simp [c1]
def ztx {s:ByteArray} (h:0<s.size):(bts s).head?=some ((bts s)[0]'(by rw [zcs];exact h)):=by
 rw [List.head?_eq_getElem?,List.getElem?_eq_getElem (by rw [zcs];exact h)]
def znH {s:ByteArray} (h:s.size=0):zkY s=false:=by
 have:bts s=[]:=qam (by rw [zcs];exact h);simp [zkY,this]
def zqi {s:ByteArray} (h:12<s.size):zkY s=false:=by
 simp [zkY,Nat.not_le.2 h]
def zqj {s:ByteArray} (h:0<s.size) (c:¬((97:Int)<=(((bts s)[0]'(by rw [zcs];exact h)).toNat:Int)/\(((bts s)[0]'(by rw [zcs];exact h)).toNat:Int)<=122)):zkY s=false:=by
 have:zpQ ((bts s)[0]'(by rw [zcs];exact h))=false:=by simp only [zpQ,c,decide_false]
 simp [zkY,ztx h,this]
def zxj {s:ByteArray} (h:k<s.size) (c1:¬((97:Int)<=(((bts s)[k]'(by rw [zcs];exact h)).toNat:Int)/\(((bts s)[k]'(by rw [zcs];exact h)).toNat:Int)<=122))
   (c2:¬((48:Int)<=(((bts s)[k]'(by rw [zcs];exact h)).toNat:Int)/\(((bts s)[k]'(by rw [zcs];exact h)).toNat:Int)<=57)):zkY s=false:=by
 have h1:zpQ ((bts s)[k]'(by rw [zcs];exact h))=false:=by simp only [zpQ,c1,decide_false]
 have h2:zuY ((bts s)[k]'(by rw [zcs];exact h))=false:=by simp only [zuY,c2,decide_false]
 have:(bts s).all (λb=>zpQ b || zuY b)=false:=by
   rw [List.all_eq_false];exact ⟨_,qab (by rw [zcs];exact h),by simp [h1,h2]⟩
 simp [zkY,this]
def ziU {s:ByteArray} (h:k<s.size) (hi:∀ b∈(bts s).take k,(zpQ b || zuY b)=true) (c:zpQ ((bts s)[k]'(by rw [zcs];exact h))=true\/zuY ((bts s)[k]'(by rw [zcs];exact h))=true) :
   ∀ b∈(bts s).take (k+1),(zpQ b || zuY b)=true:=by
 rw [tk (by rw [zcs];exact h)];intro b hb;rcases qae.1 hb with hb | hb
 . exact hi b hb
 simp only [qaa,qac,or_false] at hb;subst hb;simpa using c
def zty {s:ByteArray} (h0:0<s.size) (h1:s.size<=12) (c:(97:Int)<=(((bts s)[0]'(by rw [zcs];exact h0)).toNat:Int)/\(((bts s)[0]'(by rw [zcs];exact h0)).toNat:Int)<=122) (hk:s.size<=k)
   (hi:∀ b∈(bts s).take k,(zpQ b || zuY b)=true):zkY s=true:=by
 rw [qaf (by rw [zcs];exact hk)] at hi;have e1:zpQ ((bts s)[0]'(by rw [zcs];exact h0))=true:=by simp only [zpQ,c,and_self,decide_true]
 have e2:(bts s).all (λb=>zpQ b || zuY b)=true:=qaI.2 hi;simp [zkY,ztx h0,e1,e2,h1]
def zuZ {s:ByteArray}    :
   CALL tp 298 [.string s] w λr w'=>Ext w w'/\(r=.bool (zkY s)):=by
 refine co (g:=kf [] [(4,68719214604,[3])] []) Tryz.func298 ?_;refine zjG u9<|zai<|br (λc1=>?_) (λc1=>?_)
 . refine ⟨xrf w,?_⟩
   rw [znH oo]
 refine zjG u9<|zcK<|br (λc2=>?_) (λc2=>?_)
 . refine ⟨xrf w,?_⟩
   rw [zqi oo]
 refine zf2 (i:=0) u9 oo ?_;refine (zkB ).mono ?_;rintro _ g0 ⟨y1,rfl⟩;refine zav<|br (λc3=>?_) (λc3=>?_)
 . refine ⟨y1,?_⟩
   rw [zqj oo c3]
 refine zao (s.size) (λk us w'=>us=[.int .i64 (k:Int)]/\Ext g0 w'/\(∀ b∈(bts s).take k,(zpQ b || zuY b)=true)) (0) oo ⟨sS,xrf g0,sS⟩ ?_;rintro k m4 uu4 w2_ hk4 ⟨hu,y2,C⟩;try replace hu:=zbt hu
 try rw [hu]
 try clear hu
 refine zjG u9<|zag<|br (λc4=>?_) (λc4=>?_)
 . refine zf2 u9 oo ?_
   refine (zkB ).mono ?_;rintro _ w3_ ⟨y3,rfl⟩;refine zav<|br (λc5=>?_) (λc5=>?_)
   . refine zf2 u9 oo ?_
     refine (zqh ).mono ?_;rintro _ w4_ ⟨y4,rfl⟩;refine zav<|br (λc6=>?_) (λc6=>?_)
     . refine ⟨(y1.t (y2.t (y3.t y4))),?_⟩
       rw [zxj oo c5 c6]
     refine zau<|⟨m4-1,oo,k+1,oo,sS,(y2.t (y3.t y4)),?_⟩;exact ziU oo C (.inr (by simp only [zuY,qad.1 c6,and_self,decide_true]))
   refine zau<|⟨m4-1,oo,k+1,oo,sS,(y2.t y3),?_⟩;exact ziU oo C (.inl (by simp only [zpQ,qad.1 c5,and_self,decide_true]))
 refine ⟨(y1.t y2),?_⟩;rw [zty oo oo (qad.1 c3) oo C]
def zcw {s:ByteArray}    :
   CALL tp 245 [.string s] w λr w'=>Ext w w'/\(r=.bool (zbF s)):=by
 refine co (g:=kf [] [] []) Tryz.func245 ?_;refine zbe<|br (λc1=>?_) (λc1=>?_)
 . refine ⟨xrf w,?_⟩
   have hm:s∈kw:=by simp [kw, *]
   simp [zbF,hm]
 refine zbe<|br (λc2=>?_) (λc2=>?_)
 . refine ⟨xrf w,?_⟩
   have hm:s∈kw:=by simp [kw, *]
   simp [zbF,hm]
 refine zbe<|br (λc3=>?_) (λc3=>?_)
 . refine ⟨xrf w,?_⟩
   have hm:s∈kw:=by simp [kw, *]
   simp [zbF,hm]
 refine zbe<|br (λc4=>?_) (λc4=>?_)
 . refine ⟨xrf w,?_⟩
   have hm:s∈kw:=by simp [kw, *]
   simp [zbF,hm]
 refine zbe<|br (λc5=>?_) (λc5=>?_)
 . refine ⟨xrf w,?_⟩
   have hm:s∈kw:=by simp [kw, *]
   simp [zbF,hm]
 refine zbe<|br (λc6=>?_) (λc6=>?_)
 . refine ⟨xrf w,?_⟩
   have hm:s∈kw:=by simp [kw, *]
   simp [zbF,hm]
 refine zbe<|br (λc7=>?_) (λc7=>?_)
 . refine ⟨xrf w,?_⟩
   have hm:s∈kw:=by simp [kw, *]
   simp [zbF,hm]
 refine zbe<|br (λc8=>?_) (λc8=>?_)
 . refine ⟨xrf w,?_⟩
   have hm:s∈kw:=by simp [kw, *]
   simp [zbF,hm]
 refine zbe<|br (λc9=>?_) (λc9=>?_)
 . refine ⟨xrf w,?_⟩
   have hm:s∈kw:=by simp [kw, *]
   simp [zbF,hm]
 refine zbe<|br (λg0=>?_) (λg0=>?_)
 . refine ⟨xrf w,?_⟩
   have hm:s∈kw:=by simp [kw, *]
   simp [zbF,hm]
 refine zbe<|br (λg1=>?_) (λg1=>?_)
 . refine ⟨xrf w,?_⟩
   have hm:s∈kw:=by simp [kw, *]
   simp [zbF,hm]
 refine zbe<|br (λg2=>?_) (λg2=>?_)
 . refine ⟨xrf w,?_⟩
   have hm:s∈kw:=by simp [kw, *]
   simp [zbF,hm]
 refine zbe<|br (λg3=>?_) (λg3=>?_)
 . refine ⟨xrf w,?_⟩
   have hm:s∈kw:=by simp [kw, *]
   simp [zbF,hm]
 refine (zuZ ).mono ?_;rintro _ w1_ ⟨y1,rfl⟩;refine ⟨y1,?_⟩;have hm:s∉kw:=by simp [kw, *]
 simp [zbF,hm]
def ziV {s:ByteArray}    :
   CALL tp 176 [.string s] w λr w'=>Ext w w'/\(r=.bool (zbF s)):=by
 refine co (g:=kf [] [(4,68719214604,[3])] []) Tryz.func176 ?_;refine zjG u9<|zag<|br (λc1=>?_) (λc1=>?_)
 . refine ⟨xrf w,?_⟩
   simp [zbF,znH (s:=s) oo]
 refine zjG u9<|zcK<|br (λc2=>?_) (λc2=>?_)
 . refine ⟨xrf w,?_⟩
   simp [zbF,zqi (s:=s) oo]
 refine zf2 (i:=0) u9 oo ?_;refine (znG ).mono ?_;rintro _ g0 ⟨y1,rfl⟩;refine zav<|br (λc3=>?_) (λc3=>?_)
 . refine ⟨y1,?_⟩
   simp [zbF,zqj (s:=s) oo c3]
 refine zao (s.size) (λk us w'=>us=[.int .i64 (k:Int)]/\Ext g0 w'/\(∀ b∈(bts s).take k,(zpQ b || zuY b)=true)) (0) oo ⟨sS,xrf g0,sS⟩ ?_;rintro k m4 uu4 w2_ hk4 ⟨hu,y2,C⟩;try replace hu:=zbt hu
 try rw [hu]
 try clear hu
 refine zjG u9<|zag<|br (λc4=>?_) (λc4=>?_)
 . refine zf2 u9 oo ?_
   refine (znG ).mono ?_;rintro _ w3_ ⟨y3,rfl⟩;refine zav<|br (λc5=>?_) (λc5=>?_)
   . refine zf2 u9 oo ?_
     refine (zr8 ).mono ?_;rintro _ w4_ ⟨y4,rfl⟩;refine zav<|br (λc6=>?_) (λc6=>?_)
     . refine ⟨(y1.t (y2.t (y3.t y4))),?_⟩
       simp [zbF,zxj (s:=s) oo c5 c6]
     refine zau<|⟨m4-1,oo,k+1,oo,sS,(y2.t (y3.t y4)),?_⟩;exact ziU oo C (.inr (by simp only [zuY,qad.1 c6,and_self,decide_true]))
   refine zau<|⟨m4-1,oo,k+1,oo,sS,(y2.t y3),?_⟩;exact ziU oo C (.inl (by simp only [zpQ,qad.1 c5,and_self,decide_true]))
 refine zbe<|br (λc7=>?_) (λc7=>?_)
 . refine ⟨(y1.t y2),?_⟩
   have hm:s∈kw:=by simp only [kw,qaa, *,true_or,or_true]
   simp [zbF,hm]
 refine zbe<|br (λc8=>?_) (λc8=>?_)
 . refine ⟨(y1.t y2),?_⟩
   have hm:s∈kw:=by simp only [kw,qaa, *,true_or,or_true]
   simp [zbF,hm]
 refine zbe<|br (λc9=>?_) (λc9=>?_)
 . refine ⟨(y1.t y2),?_⟩
   have hm:s∈kw:=by simp only [kw,qaa, *,true_or,or_true]
   simp [zbF,hm]
 refine zbe<|br (λg1=>?_) (λg1=>?_)
 . refine ⟨(y1.t y2),?_⟩
   have hm:s∈kw:=by simp only [kw,qaa, *,true_or,or_true]
   simp [zbF,hm]
 refine zbe<|br (λg2=>?_) (λg2=>?_)
 . refine ⟨(y1.t y2),?_⟩
   have hm:s∈kw:=by simp only [kw,qaa, *,true_or,or_true]
   simp [zbF,hm]
 refine zbe<|br (λg3=>?_) (λg3=>?_)
 . refine ⟨(y1.t y2),?_⟩
   have hm:s∈kw:=by simp only [kw,qaa, *,true_or,or_true]
   simp [zbF,hm]
 refine zbe<|br (λg4=>?_) (λg4=>?_)
 . refine ⟨(y1.t y2),?_⟩
   have hm:s∈kw:=by simp only [kw,qaa, *,true_or,or_true]
   simp [zbF,hm]
 refine zbe<|br (λg5=>?_) (λg5=>?_)
 . refine ⟨(y1.t y2),?_⟩
   have hm:s∈kw:=by simp only [kw,qaa, *,true_or,or_true]
   simp [zbF,hm]
 refine zbe<|br (λg9=>?_) (λg9=>?_)
 . refine ⟨(y1.t y2),?_⟩
   have hm:s∈kw:=by simp only [kw,qaa, *,true_or,or_true]
   simp [zbF,hm]
 refine zbe<|br (λgb=>?_) (λgb=>?_)
 . refine ⟨(y1.t y2),?_⟩
   have hm:s∈kw:=by simp only [kw,qaa, *,true_or,or_true]
   simp [zbF,hm]
 refine zbe<|br (λgc=>?_) (λgc=>?_)
 . refine ⟨(y1.t y2),?_⟩
   have hm:s∈kw:=by simp only [kw,qaa, *,true_or,or_true]
   simp [zbF,hm]
 refine zbe<|br (λgd=>?_) (λgd=>?_)
 . refine ⟨(y1.t y2),?_⟩
   have hm:s∈kw:=by simp only [kw,qaa, *,true_or,or_true]
   simp [zbF,hm]
 refine zbe<|br (λgf=>?_) (λgf=>?_)
 . refine ⟨(y1.t y2),?_⟩
   have hm:s∈kw:=by simp only [kw,qaa, *,true_or,or_true]
   simp [zbF,hm]
 refine ⟨(y1.t y2),?_⟩;have hm:s∉kw:=by simp only [kw,qaa,qac,or_false, *,not_false_eq_true]
 simp [zbF,hm,zty oo oo (qad.1 c3) oo C]
end Go.Proofs.YtcnglfeoglgebaaGreat
namespace Go.Sh
open Go.RowKit (Below)
open Rep (rep)
theorem zk3 (r:Nat):∀ (l:List Value) (k:Nat) (cs:Array Value),
   ((l.zipIdx k).foldl (λ(cs:Array Value) (p:Value×Nat)=>cs.setIfInBounds (r+p.2) p.1) cs).size=cs.size /\
   ∀ i,((l.zipIdx k).foldl (λ(cs:Array Value) (p:Value×Nat)=>cs.setIfInBounds (r+p.2) p.1) cs)[i]?=if r+k<=i/\i<r+k+l.length/\i<cs.size then l[i-(r+k)]? else cs[i]?
 | [],k,cs=>by
   refine ⟨rfl,λi=>?_⟩;rw [if_neg (by simp;omega)];rfl
 | v :: l,k,cs=>by
   obtain ⟨h1,h2⟩:=zk3 r l (k+1) (cs.setIfInBounds (r+k) v);simp only [List.zipIdx_cons,qbw];refine ⟨by rw [h1];simp,λi=>?_⟩;rw [h2];simp only [qcO,qaj];by_cases hi:i=r+k
   . subst hi
     rw [if_neg oo];by_cases hs:r+k<cs.size
     . rw [if_pos oo];simp [hs]
     rw [if_neg oo,Array.getElem?_eq_none (by rw [qcO];omega),Array.getElem?_eq_none oo]
   by_cases hr:r+(k+1)<=i/\i<r+(k+1)+l.length/\i<cs.size
   . rw [if_pos hr,if_pos oo]
     have:i-(r+k)=(i-(r+(k+1)))+1:=oo
     rw [this,List.getElem?_cons_succ]
   rw [if_neg hr,if_neg oo,Array.getElem?_setIfInBounds_ne oo]
def ztz (v:Value) (cells:Array Value) (s:Nat) (hv:v.cells.size=s) (hc:cells.size=s):Instr.fill (λi=>some (i*s,s)) cells [(0,v)]=some v.cells:=by
 unfold Instr.fill;simp only [Nat.zero_mul];rw [if_neg (by simp;omega)];unfold Instr.fill;congr 1;obtain ⟨h1,h2⟩:=zk3 0 v.cells.toList 0 cells
 have e:v.cells.zipIdx.foldl (λ(cs:Array Value) (x:Value×Nat)=>match x with | (c,j)=>cs.setIfInBounds (0+j) c) cells
     = (v.cells.toList.zipIdx 0).foldl (λ(cs:Array Value) (p:Value×Nat)=>cs.setIfInBounds (0+p.2) p.1) cells:=by
   rw [<-Array.foldl_toList,Array.toList_zipIdx]
 rw [e];apply Array.ext_getElem?;intro i;rw [h2];by_cases hi:i<s
 . rw [if_pos (by simp;omega)];simp
 rw [if_neg (by simp;omega),Array.getElem?_eq_none oo,Array.getElem?_eq_none oo]
section
variable {w w' w'':World} {lo hi a b:Nat}
end
def RowI {α:Type} [Rep α] (lo hi:Nat) (e:TypeId) (w:World) (v:Value) (l:List α):Prop:=(∃ a,v=.slice a 0 0/\l=[])\/∃ F,RowF F e w v l/\F.Nodup/\∀ b∈F,lo<=b/\b<hi
section
variable {P:Program} {w w0 w':World} {α:Type} [Rep α] {lo hi a b e:Nat} {v:Value} {l:List α}
def zdz (a:Option Addr):OwnI (α:=List α) lo hi w (.slice a 0 0) []:=
 ⟨[],⟨⟨_,⟨a,0,[],[],rfl,lr _,z0 _,⟨rfl,rfl⟩,.inl ⟨rfl,rfl⟩⟩,rfl⟩,qaq,Wr.nil w⟩,sS⟩
def RowI.ext (h:RowI lo hi e w v l) (hx:Ext w w'):RowI lo hi e w' v l:=by
 rcases h with h | ⟨F,h1,h2,h3⟩
 . exact .inl h
 exact .inr ⟨F,h1.ext hx,h2,h3⟩
def RowI.chg (h:RowI lo hi e w v l) (hc:ChgI a b w w') (hd:hi<=a\/b<=lo):RowI lo hi e w' v l:=by
 rcases h with h | ⟨F,h1,h2,h3⟩
 . exact .inl h
 exact .inr ⟨F,h1.keep λc g0=>hc.block c (h1.lt c g0) (by have:=h3 c g0;omega),h2,h3⟩
def RowI.own (h:RowI lo hi e w v l):OwnI lo hi w v l:=by
 rcases h with ⟨a,rfl,rfl⟩ | ⟨F,h1,h2,h3⟩
 . exact zdz a
 exact ⟨F,⟨h1.own,h2,h1.wr⟩,h3⟩
def RowI.is (h:RowI lo hi e w v l):Is w v l:=h.own.is
def RowI.mono {g0 g1:Nat} (h:RowI lo hi e w v l) (h1:g0<=lo) (h2:hi<=g1):RowI g0 g1 e w v l:=by
 rcases h with h | ⟨F,h1,h2,h3⟩
 . exact .inl h
 exact .inr ⟨F,h1,h2,λb hb=>by have:=h3 b hb;omega⟩
def zcx (lo hi e:Nat) (w:World) (a:Option Addr):RowI (α:=α) lo hi e w (.slice a 0 0) []:=.inl ⟨a,rfl,rfl⟩
def zb6 (lo hi e:Nat) (w:World):RowI (α:=α) lo hi e w (.slice none 0 0) []:=.inl ⟨none,rfl,rfl⟩
def ziW (e:Nat) (w:World):RowF (α:=α) [] e w (.slice none 0 0) []:=⟨[],[],⟨sS,.inl ⟨rfl,rfl⟩⟩,⟨rfl,rfl⟩,rfl,Wr.nil _⟩
def zk4 {m1 m2:Sem Value} {K:VW} (h:m1.run P w=m2.run P w) (k:OP P m2 w K):OP P m1 w K:=by
 obtain ⟨v,w',hr,hk⟩:=k;exact ⟨v,w',h.trans hr,hk⟩
def zgE {t ty:TypeId} {by_ n c:Nat} {x:Addr} {b o:Nat} {xs:List Value} (ht:P.underlying t=some (.slice e)) (he:tyI P e=some (Rep.size α,by_,Rep.agg α)) (g1:(P.info? e).map (λi=>(i.zero.map (·.cells.size)))=some (some (Rep.size α)))
   (hl:xs.length=n*Rep.size α) (hr:w.rangeAt b o xs) (h0:0<n) (hm:n<=maxLen) (hb:n*by_<=140737488355328) :
   (Builtin.append_ #[t,t] ty #[.slice (some x) 0 0,.slice (some ⟨b,o,none⟩) n c]).run P w=(Builtin.append_ #[t,t] ty #[.slice none 0 0,.slice (some ⟨b,o,none⟩) n c]).run P w:=by
 obtain ⟨i,d,hi,hd,hs,g0,hg⟩:=zdC he;simp only [hi,qcy,qak] at g1;obtain ⟨z,hz,hzs⟩:=qaU.1 g1;rw [zal] at hm;have h1:=run_append_nil (P:=P) w t ty e i z ht hi hz ⟨b,o,none⟩ n c xs (by rw [hs];exact hl) (λj u hu=>by rw [Addr.add_mid];exact hr j u hu) h0 oo (by rw [g0];omega);have h2:=run_append_grow (P:=P) w t ty e i z ht hi hz x 0 0 [] sS sS ⟨b,o,none⟩ n c xs (by rw [hs];exact hl) (λj u hu=>by rw [Addr.add_mid];exact hr j u hu) oo oo (growslice_fits oo (by rw [g0];simpa using hb));rw [h1,h2];simp
def ziX {t:TypeId} {by_:Nat} {u:Value} {x:α} {K:VW} (ht:P.underlying t=some (.slice e)) (he:tyI P e=some (Rep.size α,by_,Rep.agg α)) (hz:zb1 P e=true) (hsz:Rep.size α<=1000)
   {F:List Nat} (hx:Mine F w u x)
   (k:∀ w',Ext w w'->Mine (w.heap.size :: F) w' (.slice (some ⟨w.heap.size,0,none⟩) 1 1) [x]->K (.slice (some ⟨w.heap.size,0,none⟩) 1 1) w'):OP P (Instr.buildSlice t 1 #[(0,u)]) w K:=by
 obtain ⟨⟨cs,hr,rfl⟩,hn,hw⟩:=hx;have g2:=zff hr;have g0:=Rep.len hr;have g3:(mkv α cs).cells.size=Rep.size α:=by rw [<-qaB,g2,g0]
 obtain ⟨i,d,hi,hd,hs,hby,hg⟩:=zdC he;unfold zb1 at hz;rw [hi] at hz;obtain ⟨z,hz⟩:=qbq.1 hz;have g4:=Rep.pos (α:=α);refine ⟨_,w.alloc (.cells (mkv α cs).cells e),?_,k _ (za6 w _) ?_⟩
 . have g5:¬Rep.size α=0:=oo
   have g9:¬2^24<Rep.size α:=oo
   simp only [Instr.buildSlice,Sem.run_bind,run_underlying ht,Result.andThen_ok,zaS he,qbS];simp [g9,g5,zeroValue,typeInfo,hi,hz,ztz _ _ _ g3,newRow]
 have hx:=za6 w (.cells (mkv α cs).cells e);have hB:(w.alloc (.cells (mkv α cs).cells e)).heap[w.heap.size]?=some (.cells (mkv α cs).cells e (0,0)):=heap_alloc_new w _;have g1:=Rep.lt hr;refine ⟨⟨_,⟨_,1,F,cs,rfl,lr _,by rw [zal];omega,Cells.single (zcr hr hx),.inr ⟨w.heap.size,0,rfl,rfl,?_,?_⟩⟩,rfl⟩,?_,?_⟩
 . intro j y hy
   simp only [World.cell?,hB];rw [<-g2] at hy;simpa using hy
 . exact (Array.getElem?_eq_some_iff.1 hB).1
 . exact qaM.2 ⟨λh=>by have:=g1 _ h;omega,hn⟩
 intro c hc;rcases qaa.1 hc with rfl | hc
 . exact ⟨_,_,hB⟩
 exact hw.ext hx c hc
def zhI {t:TypeId} {by_:Nat} {u:Value} {x:α} {K:VW} (ht:P.underlying t=some (.slice e)) (he:tyI P e=some (Rep.size α,by_,Rep.agg α)) (hz:zb1 P e=true) (g1:Rep.size α<=1000)
   (hx:OwnI lo hi w u x) (g3:lo<=w.heap.size)
   (k:∀ v w',Ext w w'->OwnI lo w'.heap.size w' v [x]->K v w'):OP P (Instr.buildSlice t 1 #[(0,u)]) w K:=by
 obtain ⟨F,hm,hF⟩:=hx;refine ziX ht he hz g1 hm λw' g2 g0=>k _ w' g2 ⟨_,g0,λb hb=>⟨?_,g0.lt b hb⟩⟩;rcases qaa.1 hb with rfl | hb
 . exact g3
 exact (hF b hb).1
def zaK {t:TypeId} {by_:Nat} {K:VW} (ht:P.underlying t=some (.slice e)) (he:tyI P e=some (Rep.size α,by_,Rep.agg α))
   (k:∀ a w',Ext w w'->RowI (α:=α) w'.heap.size w'.heap.size e w' (.slice (some a) 0 0) []->K (.slice (some a) 0 0) w'):OP P (Instr.buildSlice t 0 #[]) w K:=
 ziQ (α:=α) ht he λa w' hx hr=>k _ w' hx (zcx _ _ _ _ _)
def zoI {t ty:TypeId} {by_:Nat} {u:Value} {x:α} {lo2 hi2:Nat} {K C:VW} (ht:P.underlying t=some (.slice e)) (he:tyI P e=some (Rep.size α,by_,Rep.agg α)) (hz:zb1 P e=true)
   (gd:(P.info? e).map (λi=>(i.zero.map (·.cells.size)))=some (some (Rep.size α))) (gh:Rep.size α<=1000) (hv:RowI lo hi e w v l) (hlo:lo<=w.heap.size) (hx:OwnI lo2 hi2 w u x) (hl:hi<=lo2) (hl2:lo<=lo2) (hm:l.length+1<=maxLen) (hb:(l.length+1)*by_<=140737488355328)
   (k:∀ v' w',ChgI lo hi w w'->RowI lo w'.heap.size e w' v' (l++[x])->K v' w')
   (hC:∀ s w1,Ext w w1->OP P (Builtin.append_ #[t,t] ty [v,s].toArray) w1 K->C s w1):OP P (Instr.buildSlice t 1 #[(0,u)]) w C:=by
 obtain ⟨G,g5,hG⟩:=hx;refine ziX ht he hz gh g5 λw1 g1 gi=>?_;obtain ⟨⟨cs,⟨a,cap,Fi,xs,rfl,h1,h2,hc,h4⟩,g0⟩,hn1,gj⟩:=gi;simp only [mkv,Rep.agg,cond_false,qbk,Value.slice.injEq,qaj,qay] at g0;obtain ⟨rfl,_,rfl⟩:=g0;rcases h4 with ⟨h4,_⟩ | ⟨b,o,g3,g9,gb,hbl⟩
 . simp at h4
 simp only [qbf] at g9;obtain ⟨_,rfl⟩:=g9
 have gc:∀ (v:Value) (F:List Nat),RowF F e w v l->F.Nodup->(∀ b∈F,lo<=b/\b<hi)->OP P (Builtin.append_ #[t,t] ty [v,.slice (some ⟨w.heap.size,0,none⟩) 1 1].toArray) w1 K:=by
   intro v F hF g2 r;have gl:=hF.ext g1
   have hd:(G++F).Nodup:=by
     rw [qao];refine ⟨g5.nodup,g2,λp hp q hq e=>?_⟩;subst e;have:=hG p hp;have:=r p hq;omega
   refine zf3 (m:=[x]) ht he gd gl g2 rfl hc (.inr ⟨b,o,g3,gb⟩) (gj.sub (by simp +contextual)) hd (by simpa using hm) (by simpa using hb) λv' w' F' gp gf gg gq gr=>?_
   have g4:∀ c∈v.ownBlock.toList,lo<=c/\c<hi:=λc hc=>by
     obtain ⟨xs,Fi,_,_,rfl,_⟩:=hF;exact r c (by simp only [qae];exact .inl hc)
   refine k v' w' ((Ext.toI g1).trans (gp.toI g4)) (.inr ⟨F',gg,gq,λc hc=>⟨?_,gg.lt c hc⟩⟩);rcases gr c hc with h | h | h
   . exact (r c h).1
   . have:=hG c h;omega
   have:=g1.size;omega
 refine hC _ w1 g1 ?_;rcases hv with ⟨a0,rfl,rfl⟩ | ⟨F,hF,g2,r⟩
 . have kn:=gc (.slice none 0 0) [] (ziW e w) qaq sS
   cases a0 with
   | none=>exact kn
   | some x0=>
     simp only [qak,Addr.mk.injEq] at g3;obtain ⟨rfl,rfl,_⟩:=g3;exact zk4 (zgE (α:=α) (n:=1) ht he gd (by simpa using Cells.len hc) gb oo (by rw [zal];omega) (by simpa using hb)) kn
 exact gc v F hF g2 r
def zbO {t ty:TypeId} {by_:Nat} {u:Value} {x:α} {lo2 hi2:Nat} {K:VW} (ht:P.underlying t=some (.slice e)) (he:tyI P e=some (Rep.size α,by_,Rep.agg α)) (hz:zb1 P e=true)
   (hzc:(P.info? e).map (λi=>(i.zero.map (·.cells.size)))=some (some (Rep.size α))) (hsz:Rep.size α<=1000) (hv:RowI lo hi e w v l) (hlo:lo<=w.heap.size) (hx:OwnI lo2 hi2 w u x) (hl:hi<=lo2) (hl2:lo<=lo2) (hm:l.length+1<=maxLen) (hb:(l.length+1)*by_<=140737488355328)
   (k:∀ v' w',ChgI lo hi w w'->RowI lo w'.heap.size e w' v' (l++[x])->K v' w'):OP P (Instr.buildSlice t 1 #[(0,u)]) w λs w1=>OP P (Builtin.append_ #[t,t] ty [v,s].toArray) w1 K:=
 zoI ht he hz hzc hsz hv hlo hx hl hl2 hm hb k λ_ _ _ h=>h
def zoJ {t ty:TypeId} {by_:Nat} {u:Value} {x:α} {lo2 hi2:Nat} {K:VW} (ht:P.underlying t=some (.slice e)) (he:tyI P e=some (Rep.size α,by_,Rep.agg α)) (hz:zb1 P e=true)
   (hzc:(P.info? e).map (λi=>(i.zero.map (·.cells.size)))=some (some (Rep.size α))) (hsz:Rep.size α<=1000) (hv:RowI lo hi e w v l) (hlo:lo<=w.heap.size) (hx:OwnI lo2 hi2 w u x) (hl:hi<=lo2) (hl2:lo<=lo2) (hm:l.length+1<=maxLen) (hb:(l.length+1)*by_<=140737488355328)
   (k:∀ v' w',ChgI lo hi w w'->RowI lo w'.heap.size e w' v' (l++[x])->K v' w'):OP P (Instr.buildSlice t 1 #[(0,u)]) w λs w1=>Ext w w1/\OP P (Builtin.append_ #[t,t] ty [v,s].toArray) w1 K:=
 zoI ht he hz hzc hsz hv hlo hx hl hl2 hm hb k λ_ _ hx h=>⟨hx,h⟩
def zeh [Flat α] {t ty:TypeId} {by_:Nat} {gb:Value} {m:List α} {K:VW} (ht:P.underlying t=some (.slice e)) (he:tyI P e=some (Rep.size α,by_,Rep.agg α))
   (g4:(P.info? e).map (λi=>(i.zero.map (·.cells.size)))=some (some (Rep.size α))) (hv:RowI lo hi e w v l) (hlo:lo<=w.heap.size) (hs:Is w0 gb m) (hx:Ext w0 w) (hm:l.length+m.length<=maxLen) (hb:(l.length+m.length)*by_<=140737488355328)
   (k:∀ v' w',ChgI lo hi w w'->RowI lo w'.heap.size e w' v' (l++m)->K v' w'):OP P (Builtin.append_ #[t,t] ty [v,gb].toArray) w K:=by
 obtain ⟨a,cap,Fi,xs,rfl,h1,h2,hc,h4⟩:=zcT (hs.ext hx);have gc:=Cells.flat (xs:=xs) hc;subst gc
 have g3:∀ (v:Value) (F:List Nat),RowF F e w v l->F.Nodup->(∀ b∈F,lo<=b/\b<hi)->OP P (Builtin.append_ #[t,t] ty [v,.slice a m.length cap].toArray) w K:=by
   intro v F hF g0 g1;refine zf3 (m:=m) ht he g4 hF g0 rfl hc (by rcases h4 with h | ⟨b,o,ha,hr,_⟩;exact .inl h;exact .inr ⟨b,o,ha,hr⟩) (Wr.nil _) (by simpa using g0) hm hb λv' w' F' gd g5 g9 gf gg=>?_
   have g2:∀ c∈v.ownBlock.toList,lo<=c/\c<hi:=λc hc=>by
     obtain ⟨xs,Fi,_,_,rfl,_⟩:=hF;exact g1 c (by simp only [qae];exact .inl hc)
   refine k v' w' (gd.toI g2) (.inr ⟨F',g9,gf,λc hc=>⟨?_,g9.lt c hc⟩⟩);rcases gg c hc with h | h | h
   . exact (g1 c h).1
   . simp at h
   omega
 rcases hv with ⟨a0,rfl,rfl⟩ | ⟨F,hF,g0,g1⟩
 . have kn:=g3 (.slice none 0 0) [] (ziW e w) qaq sS
   cases a0 with
   | none=>exact kn
   | some x0=>
     by_cases hm0:m=[]
     . subst hm0
       refine ⟨.slice (some x0) 0 0,w,?_,k _ w (ChgI.refl w) (zcx _ _ _ _ _)⟩
       have hf:(Builtin.firstCells (Rep.size α) 0 (.slice a 0 cap)).run P w=.ok #[] w:=by
         cases a with
         | none=>rfl
         | some a=>simp [Builtin.firstCells,loadCells,loadCellsFrom]
       simp [Builtin.append_,run_underlying ht,zaS he,Builtin.lenOf,hf,storeCells]
     rcases h4 with h | ⟨b,o,rfl,hr,_⟩
     . exact absurd h hm0
     exact zk4 (zgE (α:=α) ht he g4 (Cells.len hc) hr (qaN.2 hm0) (by simpa using hm) (by simpa using hb)) kn
 exact g3 v F hF g0 g1
def zoK {a:Option Addr} {cap:Nat} {l:List α} (h:Is w (.slice a l.length cap) l) (k:Nat) (hk:k<=l.length):Is w (.slice a k cap) (l.take k):=by
 obtain ⟨F,cs,⟨a',g0,Fi,xs,rfl,h1,h2,hc,h4⟩,hv⟩:=h;simp only [mkv,Rep.agg,cond_false,qbk,Value.slice.injEq] at hv;obtain ⟨rfl,_,rfl⟩:=hv;have e:l=l.take k++l.drop k:=by simp
 have r:(l.take k).length=k:=by simp;omega
 rw [e] at hc;obtain ⟨F1,F2,x1,x2,rfl,rfl,c1,c2⟩:=Cells.split hc;by_cases hd:l.take k=[]
 . refine ⟨[],_,⟨a,cap,F1,x1,rfl,by rw [r];omega,h2,c1,.inl ⟨hd,rfl⟩⟩,?_⟩
   rw [r];rfl
 rcases h4 with ⟨rfl,_⟩ | ⟨b,o,rfl,rfl,hr,hb⟩
 . simp at hd
 refine ⟨_,_,⟨some ⟨b,o,none⟩,cap,F1,x1,rfl,by rw [r];omega,h2,c1,.inr ⟨b,o,rfl,rfl,(zaO hr).1,hb⟩⟩,?_⟩;rw [r];rfl
def zlH {t:TypeId} {by_:Nat} {v:Value} {l:List α} {i:Int} {K:Value->Prop} (ht:P.underlying t=some (.slice e)) (he:tyI P e=some (Rep.size α,by_,Rep.agg α)) (h:Is w0 v l) (h0:0<=i) (h1:i.toNat<=l.length)
   (k:∀ v',Is w0 v' (l.take i.toNat)->K v'):RD P (Instr.sliceAt t v none (some (.int .i64 i)) none) w K:=by
 obtain ⟨a,cap,Fi,xs,rfl,hc1,hcm,_,h4⟩:=zcT h
 have hb:∀ w',(Instr.sliceBounds true l.length cap none (some (.int .i64 i)) none).run P w'=.ok (0,i.toNat,cap) w':=λw'=>by
   have:i<=(cap:Int):=oo
   simp [Instr.sliceBounds,Instr.sliceBound,asIntOf,h0,this]
 refine zbb (v:=.slice a i.toNat cap) (λw' _=>?_) (k _ (zoK h i.toNat h1))
 have hz:(if cap=0 then a else a.map (λx=>x.add (0*Rep.size α)))=a:=by
   split
   . rfl
   cases a<;>simp [Addr.add_mid,Addr.add]
 simp only [Instr.sliceAt,Instr.slice,Sem.run_bind,run_underlying ht,Result.andThen_ok,hb,zaS he];simp;exact λ_=>by cases a<;>simp [Addr.add_mid,Addr.add]
def zoL {t:TypeId} {by_:Nat} {v:Value} {l:List α} {i j:Int} {K:Value->Prop} (ht:P.underlying t=some (.slice e)) (he:tyI P e=some (Rep.size α,by_,Rep.agg α)) (h:Is w0 v l) (h0:0<=i) (h1:i<=j) (h2:j.toNat<=l.length)
   (k:∀ v',Is w0 v' ((l.take j.toNat).drop i.toNat)->K v'):RD P (Instr.sliceAt t v (some (.int .i64 i)) (some (.int .i64 j)) none) w K:=by
 obtain ⟨a,cap,Fi,xs,rfl,hc1,hcm,_,h4⟩:=zcT h
 have hb:∀ w',(Instr.sliceBounds true l.length cap (some (.int .i64 i)) (some (.int .i64 j)) none).run P w'=.ok (i.toNat,j.toNat,cap) w':=λw'=>by
   have h3:j<=(cap:Int):=oo
   have h5:0<=j:=oo
   simp [Instr.sliceBounds,Instr.sliceBound,asIntOf,h0,h1,h3,h5];intro h6;omega
 have hl:(l.take j.toNat).length=j.toNat:=by rw [qai];omega
 have g0:Is w0 (.slice a (l.take j.toNat).length cap) (l.take j.toNat):=by rw [hl];exact zoK h j.toNat h2
 have hd:=zrU g0 i.toNat oo (Rep.size α) rfl;rw [hl] at hd;refine zbb (λw' _=>?_) (k _ hd);simp only [Instr.sliceAt,Instr.slice,Sem.run_bind,run_underlying ht,Result.andThen_ok,hb,zaS he];simp
def AtB {α:Type} [Rep α] (W w:World) (b o:Nat) (x:α):Prop:=∃ F cs,rep F W cs x/\w.rangeAt b o cs
def AtB.keep {W w':World} {b o:Nat} {x:α} (h:AtB W w b o x) (hb:w'.heap[b]?=w.heap[b]?):AtB W w' b o x:=by
 obtain ⟨F,cs,hr,ha⟩:=h;exact ⟨F,cs,hr,zbo ha hb⟩
def AtB.ext {W:World} {b o:Nat} {x:α} (h:AtB W w b o x) (hx:Ext w w'):AtB W w' b o x:=by
 obtain ⟨F,cs,hr,ha⟩:=h;exact ⟨F,cs,hr,zbI ha hx⟩
def AtB.at {W:World} {b o:Nat} {x:α} (h:AtB W w b o x) (hx:Ext W w):At w b o x:=by
 obtain ⟨F,cs,hr,ha⟩:=h;exact ⟨F,cs,zcr hr hx,ha⟩
def AtB.fst {β:Type} [Rep β] {W:World} {b o:Nat} {p:α×β} (h:AtB W w b o p):AtB W w b o p.1:=by
 obtain ⟨F,cs,⟨F1,F2,c1,c2,rfl,rfl,h1,h2⟩,hr⟩:=h;exact ⟨F1,c1,h1,(zaO hr).1⟩
def AtB.snd {β:Type} [Rep β] {W:World} {b o:Nat} {p:α×β} (h:AtB W w b o p):AtB W w b (o+Rep.size α) p.2:=by
 obtain ⟨F,cs,⟨F1,F2,c1,c2,rfl,rfl,h1,h2⟩,hr⟩:=h;have:=(zaO hr).2;rw [Rep.len h1] at this;exact ⟨F2,c2,h2,this⟩
def zfj {W:World} {t by_ b o:Nat} {x:α} {K:Value->Prop} (ht:tyI P t=some (Rep.size α,by_,Rep.agg α)) (h:AtB W w0 b o x) (hW:Ext W w0) (hx:Ext w0 w) (k:∀ v,Is W v x->K v) :
   RD P (Instr.loadAt t (.pointer (some ⟨b,o,none⟩))) w K:=by
 obtain ⟨F,cs,hr,hc⟩:=h;exact zbb (λw' g0=>zfe ht (zcr hr (hW.trans (hx.t g0))) (zbI hc (hx.t g0))) (k _ ⟨F,cs,hr,rfl⟩)
def zgF {W w1:World} {g:Nat} {x:α} {t:TypeId} (h:Is W v x) (hV:Var P t w1 g v) (ha:Rep.agg α=true):AtB W w1 g 0 x:=by
 obtain ⟨F,cs,hr,rfl⟩:=h;obtain ⟨e,g0,_,hB,hv,_⟩:=hV
 have:g0=cs:=by
   simp only [mkv,ha,cond_true,Value.agg.injEq] at hv;have:=congrArg Array.toList hv;simpa using this.symm
 subst this;exact ⟨F,_,hr,hB.range⟩
theorem zxk [RepZ α] {t:TypeId} {fs:Array Field} {K:Value->Prop} (hu:P.underlying t=some (.struct fs)) (hz:zcz P t=some (RepZ.zc α)) (hf:(fs.toList.all λf=>(P.info? f.type).isSome)=true) (ha:Rep.agg α=true)
   (k:∀ v,Is w v (RepZ.zv:α)->K v):RD P (Instr.build t #[]) w K:=by
 unfold zcz at hz;cases hi:P.info? t with
 | none=>simp [hi] at hz
 | some i=>
   simp only [hi] at hz;obtain ⟨z,g0,g1⟩:=qaU.1 hz
   have hm:∀ w',∃ ps,(fs.mapM λf=>do pure (f.offset,<-sizeOf f.type):Sem (Array (Nat×Nat))).run P w'=.ok ps w':=by
     intro w'
     have:∀ l:List Field,(l.all λf=>(P.info? f.type).isSome)=true->∃ ps,(l.mapM λf=>do pure (f.offset,<-sizeOf f.type):Sem (List (Nat×Nat))).run P w'=.ok ps w':=by
       intro l
       induction l with
       | nil=>intro _;exact ⟨[],sS⟩
       | cons f l ih=>
         intro h;simp only [List.all_cons,qap] at h;obtain ⟨j,hj⟩:=qbq.1 h.1;obtain ⟨ps,r⟩:=ih h.2;have g2:(sizeOf f.type).run P w'=.ok j.size w':=by simp [sizeOf,typeInfo,hj]
         exact ⟨(f.offset,j.size) :: ps,by simp only [qcF,Sem.run_bind,g2,Result.andThen_ok,Sem.run_pure,r]⟩
     obtain ⟨ps,r⟩:=this fs.toList hf;exact ⟨ps.toArray,by rw [qcG];simp only [map_eq_pure_bind,Sem.run_bind,r,Result.andThen_ok,Sem.run_pure]⟩
   refine zbb (v:=mkv α (RepZ.zc α)) (λw' _=>?_) (k _ ⟨[],_,RepZ.zr w,rfl⟩);obtain ⟨ps,r⟩:=hm w';have e:z.cells=(RepZ.zc α).toArray:=by rw [<-g1]
   have g3:(zeroValue t).run P w'=.ok z w':=by simp [zeroValue,typeInfo,hi,g0]
   simp only [Instr.build,Sem.run_bind,g3,Result.andThen_ok,run_underlying hu,r];simp [Instr.fill,mkv,ha,e]
end
end Go.Sh
namespace Go.Proofs.YtcnglfeoglgebaaGreat
open Go Go.Sh Go.Proofs
open Rep (rep)
variable {F:List Nat} {W W0 W1 w:World} {b k n o:Nat} {d:Int} {ty:TypeId} {v v0 v1:Value}
def zbk:Nat->DTerm->Bool
 | n,.mk k num s ks=>
   if k=1 then decide (0<=num/\num<=1000000000)&&decide (s=ByteArray.mk #[])&&decide ((ks.length:Int)=0)
   else if k=2 then decide (num=0)&&zbF s&&decide ((ks.length:Int)=0)
   else decide (3<=k/\k<=9)&&decide (num=0)&&decide (s=ByteArray.mk #[])&&decide ((ks.length:Int)=if k=8 then 1 else 2) &&
     (match n with | 0=>false | m+1=>ks.all (zbk m))
def zeV {t:DTerm} (h:t.kind=1):zbk n t=(decide (0<=t.num/\t.num<=1000000000)&&decide (t.name=ByteArray.mk #[])&&decide ((t.kids.length:Int)=0)):=by
 obtain ⟨k,num,s,ks⟩:=t;have:k=1:=h;unfold zbk;rw [if_pos this];rfl
def zgG {t:DTerm} (h:t.kind=2):zbk n t=(decide (t.num=0)&&zbF t.name&&decide ((t.kids.length:Int)=0)):=by
 obtain ⟨k,num,s,ks⟩:=t;have:k=2:=h;unfold zbk;rw [if_neg oo,if_pos this];rfl
def zbE {t:DTerm} (h1:¬t.kind=1) (h2:¬t.kind=2):zbk n t =
   (decide (3<=t.kind/\t.kind<=9)&&decide (t.num=0)&&decide (t.name=ByteArray.mk #[])&&decide ((t.kids.length:Int)=if t.kind=8 then 1 else 2)&&(match n with | 0=>false | m+1=>t.kids.all (zbk m))):=by
 obtain ⟨k,num,s,ks⟩:=t;have h1:¬k=1:=h1;have h2:¬k=2:=h2;unfold zbk;rw [if_neg h1,if_neg h2];rfl
def zk5 {α:Type} {p:α->Bool} {l:List α} (hk:k<l.length) (h:(l.take k).all p=true) (hp:p l[k]=true):(l.take (k+1)).all p=true:=by
 rw [tk hk,List.all_append,h];simp [hp]
def ziY {α:Type} {p:α->Bool} {l:List α} (hk:k<l.length) (hp:p l[k]=false):l.all p=false:=by
 rw [List.all_eq_false];exact ⟨_,qab hk,by simp [hp]⟩
def zk6 {α:Type} {p:α->Bool} {l:List α} (hk:l.length<=k) (h:(l.take k).all p=true):l.all p=true:=by
 rwa [qaf hk] at h
def zEP (f:Nat) (n:Nat):Prop:=∀ {w W:World} {v:Value} {t:DTerm} {d:Int},Is W v t->Ext W w->d=(n:Int) ->
 CALL tp f [v,.int .i64 d] w λr w'=>Ext w w'/\r=.bool (zbk n t)
def zoM {t:DTerm} (h0:Is W0 v0 t) (e0:Ext W0 w) (hd:d=(n:Int)) (ih:∀ m,m+1=n->zEP 244 m) (hn:n<=6) :
   CALL tp 244 [v0,.int .i64 d] w λr w'=>Ext w w'/\(r=.bool (zbk n t)):=by
 refine co (g:=kf [(18,9223372036854775696,[])] [(21,309182778366441411431104592,[78])] []) Tryz.func244 ?_;refine zat zdj rfl h0 e0 λC y1 D hV2=>JOIN.mk (λus w'=>us=[]/\Ext C w'/\(3<=t.kind/\t.kind<=9/\(t.kids.length:Int)=(if t.kind=8 then 1 else 2))) ?_ ?_
 . refine zab zeO ?_
   refine zac ty3 (zbK D) (xrf C) λhI8=>zai<|br (λc1=>?_) (λc1=>?_)
   . refine zab zf7 ?_
     refine zac ty3 (zci D) (xrf C) λgt=>zcb<|br (λc2=>?_) (λc2=>?_)
     . refine zab zf7 ?_
       refine zac ty3 (zci D) (xrf C) λgx=>zdT<|br (λc3=>?_) (λc3=>?_)
       . refine zab zfi ?_
         refine zaB ty9 (zbS D) (xrf C) λgy=>zbe<|br (λc4=>?_) (λc4=>?_)
         . refine zab zcp ?_
           refine zaa ziH (zaZ D) (xrf C) λv26 g4=>?_;have g5:=zaj g4;refine zae u51 g4<|zai<|⟨y1,?_⟩;rw [zeV c1];simp only [c2,c3,c4,and_self,decide_true,qbT]
         refine ⟨y1,?_⟩;rw [zeV c1];simp only [c4,decide_false,qbl,qbh]
       refine ⟨y1,?_⟩;rw [zeV c1];simp only [c3,and_false,decide_false,qbh]
     refine ⟨y1,?_⟩;rw [zeV c1];simp only [c2,false_and,decide_false,qbh]
   refine zai<|br (λc5=>?_) (λc5=>?_)
   . refine zab zf7 ?_
     refine zac ty3 (zci D) (xrf C) λgz=>zai<|br (λc6=>?_) (λc6=>?_)
     . refine zab zfi ?_
       refine zaB ty9 (zbS D) (xrf C) λgC=>?_;refine (ziV ).mono ?_;rintro _ w3_ ⟨y3,rfl⟩;refine zbz (λc7=>?_) (λc7=>?_)
       . refine zab zcp ?_
         refine zaa ziH (zaZ D) y3 λv42 g9=>?_;have gb:=zaj g9;refine zae u51 g9<|zai<|⟨(y1.t y3),?_⟩;rw [zgG c5];simp only [c6,c7,decide_true,qbT]
       refine ⟨(y1.t y3),?_⟩;rw [zgG c5];simp only [c6,c7,decide_true,qbT,qbh]
     refine ⟨y1,?_⟩;rw [zgG c5];simp only [c6,decide_false,qbh]
   refine zai<|br (λc8=>?_) (λc8=>?_)
   . refine zab zcp ?_
     refine zaa ziH (zaZ D) (xrf C) λU I=>?_;have M:=zaj I;refine zae u51 I<|zaP<|br (λc9=>?_) (λc9=>?_)
     . refine ⟨y1,?_⟩
       rw [zbE c1 c5];simp [show ¬t.kind=8 by omega,show ¬(t.kids.length:Int)=2 from c9]
     refine ⟨sS,xrf C,?_⟩;split<;>omega
   refine zai<|br (λgD=>?_) (λgD=>?_)
   . refine zab zcp ?_
     refine zaa ziH (zaZ D) (xrf C) λU I=>?_;have M:=zaj I;refine zae u51 I<|zaP<|br (λgc=>?_) (λgc=>?_)
     . refine ⟨y1,?_⟩
       rw [zbE c1 c5];simp [show ¬t.kind=8 by omega,show ¬(t.kids.length:Int)=2 from gc]
     refine ⟨sS,xrf C,?_⟩;split<;>omega
   refine zai<|br (λgE=>?_) (λgE=>?_)
   . refine zab zcp ?_
     refine zaa ziH (zaZ D) (xrf C) λU I=>?_;have M:=zaj I;refine zae u51 I<|zaP<|br (λgd=>?_) (λgd=>?_)
     . refine ⟨y1,?_⟩
       rw [zbE c1 c5];simp [show ¬t.kind=8 by omega,show ¬(t.kids.length:Int)=2 from gd]
     refine ⟨sS,xrf C,?_⟩;split<;>omega
   refine zai<|br (λgF=>?_) (λgF=>?_)
   . refine zab zcp ?_
     refine zaa ziH (zaZ D) (xrf C) λU I=>?_;have M:=zaj I;refine zae u51 I<|zaP<|br (λgf=>?_) (λgf=>?_)
     . refine ⟨y1,?_⟩
       rw [zbE c1 c5];simp [show ¬t.kind=8 by omega,show ¬(t.kids.length:Int)=2 from gf]
     refine ⟨sS,xrf C,?_⟩;split<;>omega
   refine zai<|br (λgG=>?_) (λgG=>?_)
   . refine zab zcp ?_
     refine zaa ziH (zaZ D) (xrf C) λU I=>?_;have M:=zaj I;refine zae u51 I<|zaP<|br (λgg=>?_) (λgg=>?_)
     . refine ⟨y1,?_⟩
       rw [zbE c1 c5];simp [show ¬t.kind=8 by omega,show ¬(t.kids.length:Int)=2 from gg]
     refine ⟨sS,xrf C,?_⟩;split<;>omega
   refine zai<|br (λgH=>?_) (λgH=>?_)
   . refine zab zcp ?_
     refine zaa ziH (zaZ D) (xrf C) λU I=>?_;have M:=zaj I;refine zae u51 I<|zaP<|br (λgh=>?_) (λgh=>?_)
     . refine ⟨y1,?_⟩
       rw [zbE c1 c5];simp [show ¬t.kind=8 by omega,show ¬(t.kids.length:Int)=2 from gh]
     refine ⟨sS,xrf C,?_⟩;split<;>omega
   refine zai<|br (λgi=>?_) (λgi=>?_)
   . refine zab zcp ?_
     refine zaa ziH (zaZ D) (xrf C) λv60 gj=>?_;have gl:=zaj gj;refine zae u51 gj<|zaP<|br (λgp=>?_) (λgp=>?_)
     . refine ⟨y1,?_⟩
       rw [zbE c1 c5];simp [gi,show ¬(t.kids.length:Int)=1 from gp]
     refine ⟨sS,xrf C,?_⟩;split<;>omega
   refine ⟨y1,?_⟩;rw [zbE c1 c5];simp [show ¬(3<=t.kind/\t.kind<=9) by omega]
 rintro gI gq ⟨hu,y3,gJ,gK,gM⟩;try replace hu:=zbt hu
 clear hu;refine zab zf7<|zac ty3 (zci D) y3 λgN=>zaP<|br (λg2=>?_) (λg2=>?_)
 . refine ⟨(y1.t y3),?_⟩
   rw [zbE oo oo];simp [g2]
 refine zab zfi<|zaB ty9 (zbS D) y3 λgO=>zox<|br (λg3=>?_) (λg3=>?_)
 . refine ⟨(y1.t y3),?_⟩
   rw [zbE oo oo];simp [g3]
 refine zai<|br (λgP=>?_) (λgP=>?_)
 . refine ⟨(y1.t y3),?_⟩
   rw [zbE oo oo];simp [show n=0 by omega]
 refine zab zcp<|zaa ziH (zaZ D) y3 λv76 g0=>?_;have gr:=zaj g0;refine zae u51 g0<|zao (t.kids.length) (λk us w'=>us=[.int .i64 (k:Int)]/\Ext gq w'/\((t.kids.take k).all (zbk (n-1))=true)) (0) oo ⟨sS,xrf gq,sS⟩ ?_;rintro k gQ gR w4_ gS ⟨hu,y4,O⟩;try replace hu:=zbt hu
 try rw [hu]
 try clear hu
 refine zag<|br (λgU=>?_) (λgU=>?_)
 . refine zad u51 zdj g0 oo λb80 o80 gV=>?_
   refine zaa zdj gV (y3.t y4) λv81 gs=>zck zDA rfl zdj rfl gs (y3.t y4) λgW y5 hA6 gX=>zaF gX (xrf gW)<|zbc (by unfold I64;omega) ?_;refine (ih (n-1) oo gs (y3.t (y4.t y5)) oo).mono ?_;rintro _ w6_ ⟨y6,rfl⟩;refine zaV<|zbz (λg1=>?_) (λg1=>?_)
   . refine ⟨(y1.t (y3.t (y4.t (y5.t y6)))),?_⟩
     rw [zbE oo oo];obtain ⟨m,rfl⟩:∃ m,n=m+1:=⟨n-1,oo⟩;rw [qaR,qbG] at g1;simp only [ziY oo g1,qbl]
   have hln:=zaj g0;refine zau<|⟨gQ-1,oo,k+1,oo,sS,(y4.t (y5.t y6)),?_⟩;exact zk5 oo O (by simpa using g1)
 refine ⟨(y1.t (y3.t y4)),?_⟩;rw [zbE oo oo];obtain ⟨m,rfl⟩:∃ m,n=m+1:=⟨n-1,oo⟩;rw [qbG] at O;simp only [show 3<=t.kind/\t.kind<=9 from ⟨gJ,gK⟩,qad.1 g2,qad.1 g3,gM,zk6 oo O,and_self,decide_true,qc7]
theorem zlJ:∀ (n:Nat),n<=6->zEP 244 n
 | n,hn=>by intro h e hd;exact zoM h e hd (λm hm=>zlJ m oo) hn
def zgH {t:DTerm}  (h0:Is W0 v0 t) (e0:Ext W0 w)  :
   CALL tp 189 [v0] w λr w'=>Ext w w'/\(r=.bool (zbk 6 t)):=by
 refine co (g:=kf [] [] []) Tryz.func189 ?_;refine zat zdj rfl h0 e0 λg0 y1 hA1 g1=>zaF g1 (xrf g0) ?_;refine ((zlJ 6 oo) h0 (e0.t y1) rfl).mono ?_;rintro _ w2_ ⟨y2,rfl⟩;refine ⟨(y1.t y2),?_⟩;rfl
def zoN {t:DTerm} (h0:Is W0 v0 t) (e0:Ext W0 w) (hd:d=(n:Int)) (ih:∀ m,m+1=n->zEP 246 m) (hn:n<=6) :
   CALL tp 246 [v0,.int .i64 d] w λr w'=>Ext w w'/\(r=.bool (zbk n t)):=by
 refine co (g:=kf [(9,15393162788896,[5])] [(12,38685035931857774884946000,[6])] []) Tryz.func246 ?_;refine zat zdj rfl h0 e0 λI y1 C hV2=>zab zeO<|zac ty3 (zbK C) (xrf I) λhI8=>zai<|br (λc1=>?_) (λc1=>?_)
 . refine zab zf7 ?_
   refine zac ty3 (zci C) (xrf I) λgh=>?_;refine (l01In_ok ).mono ?_;rintro _ w2_ ⟨y2,rfl⟩;refine br (λc2=>?_) (λc2=>?_)
   . refine zab zfi ?_
     refine zaB ty9 (zbS C) y2 λgi=>zbe<|br (λc3=>?_) (λc3=>?_)
     . refine zab zcp ?_
       refine zaa ziH (zaZ C) y2 λv21 g4=>?_;have g5:=zaj g4;refine zae u51 g4<|zai<|⟨(y1.t y2),?_⟩;rw [zeV c1];simp only [c2,c3,and_self,decide_true,qbT]
     refine ⟨(y1.t y2),?_⟩;rw [zeV c1];simp only [c3,decide_false,qbl,qbh]
   refine ⟨(y1.t y2),?_⟩;rw [zeV c1];simp only [c2,decide_false,qbh]
 refine zai<|br (λc4=>?_) (λc4=>?_)
 . refine zab zf7 ?_
   refine zac ty3 (zci C) (xrf I) λgj=>zai<|br (λc5=>?_) (λc5=>?_)
   . refine zab zfi ?_
     refine zaB ty9 (zbS C) (xrf I) λgl=>?_;refine (zcw ).mono ?_;rintro _ w3_ ⟨y3,rfl⟩;refine zbz (λc6=>?_) (λc6=>?_)
     . refine zab zcp ?_
       refine zaa ziH (zaZ C) y3 λv37 g9=>?_;have gb:=zaj g9;refine zae u51 g9<|zai<|⟨(y1.t y3),?_⟩;rw [zgG c4];simp only [c5,c6,decide_true,qbT]
     refine ⟨(y1.t y3),?_⟩;rw [zgG c4];simp only [c5,c6,decide_true,qbT,qbh]
   refine ⟨y1,?_⟩;rw [zgG c4];simp only [c5,decide_false,qbh]
 refine JOIN.mk (λus w'=>us=[.int .i64 (if t.kind=8 then 1 else 2)]/\Ext I w'/\(True)) ?_ ?_
 . refine zab zeO ?_
   refine zac ty3 (zbK C) (xrf I) λgp=>zai<|br (λc7=>?_) (λc7=>?_)
   . refine ⟨by rw [if_pos c7],xrf I,?_⟩
     trivial
   refine ⟨by rw [if_neg c7],xrf I,?_⟩;trivial
 rintro uj9 w4_ ⟨hu,y4,D⟩;try replace hu:=zbt hu
 try rw [hu]
 try clear hu
 refine zab zeO<|zac ty3 (zbK C) y4 λgq=>?_;refine (l01In_ok ).mono ?_;rintro _ gc ⟨y5,rfl⟩;refine zav<|br (λc8=>?_) (λc8=>?_)
 . refine ⟨(y1.t (y4.t y5)),?_⟩
   rw [zbE c1 c4];simp only [c8,decide_false,qbh]
 refine zab zf7<|zac ty3 (zci C) (y4.t y5) λgr=>zaP<|br (λc9=>?_) (λc9=>?_)
 . refine ⟨(y1.t (y4.t y5)),?_⟩
   rw [zbE c1 c4];simp only [show ¬t.num=0 from c9,decide_false,qbh,qbl]
 refine zab zfi<|zaB ty9 (zbS C) (y4.t y5) λgs=>zox<|br (λg1=>?_) (λg1=>?_)
 . refine ⟨(y1.t (y4.t y5)),?_⟩
   rw [zbE c1 c4];simp only [show ¬t.name=_ from g1,decide_false,qbh,qbl]
 refine zab zcp<|zaa ziH (zaZ C) (y4.t y5) λv60 gd=>?_;have gf:=zaj gd;refine zae u51 gd<|zaP<|br (λg2=>?_) (λg2=>?_)
 . refine ⟨(y1.t (y4.t y5)),?_⟩
   rw [zbE c1 c4];simp only [show ¬(t.kids.length:Int)=_ from g2,decide_false,qbh,qbl]
 refine zai<|br (λgt=>?_) (λgt=>?_)
 . refine ⟨(y1.t (y4.t y5)),?_⟩
   rw [zbE c1 c4];simp [show n=0 by omega]
 refine zao (t.kids.length) (λk us w'=>us=[.int .i64 (k:Int)]/\Ext gc w'/\((t.kids.take k).all (zbk (n-1))=true)) (0) oo ⟨sS,xrf gc,sS⟩ ?_;rintro k gx gy w6_ gz ⟨hu,y6,D⟩;try replace hu:=zbt hu
 try rw [hu]
 try clear hu
 refine zab zcp<|zaa ziH (zaZ C) (y4.t (y5.t y6)) λv71 g3=>?_;have gg:=zaj g3;refine zae u51 g3<|zag<|br (λgC=>?_) (λgC=>?_)
 . refine zab zcp ?_
   refine zaa ziH (zaZ C) (y4.t (y5.t y6)) λv77 gD=>zad u51 zdj gD oo λb79 o79 gE=>zaa zdj gE (y4.t (y5.t y6)) λv80 gF=>zbc (by unfold I64;omega) ?_;refine (ih (n-1) oo gF (y4.t (y5.t y6)) oo).mono ?_;rintro _ w7_ ⟨y7,rfl⟩;refine zaV<|zbz (λg0=>?_) (λg0=>?_)
   . refine ⟨(y1.t (y4.t (y5.t (y6.t y7)))),?_⟩
     rw [zbE c1 c4];obtain ⟨m,rfl⟩:∃ m,n=m+1:=⟨n-1,oo⟩;rw [qaR,qbG] at g0;simp only [ziY oo g0,qbl]
   have hln:=zaj g3;refine zau<|⟨gx-1,oo,k+1,oo,sS,(y6.t y7),?_⟩;exact zk5 oo D (by simpa using g0)
 refine ⟨(y1.t (y4.t (y5.t y6))),?_⟩;rw [zbE c1 c4];obtain ⟨m,rfl⟩:∃ m,n=m+1:=⟨n-1,oo⟩;rw [qbG] at D;simp only [qad.1 c8,qad.1 c9,qad.1 g1,qad.1 g2,zk6 oo D,and_self,decide_true,qc7]
theorem zlK:∀ (n:Nat),n<=6->zEP 246 n
 | n,hn=>by intro h e hd;exact zoN h e hd (λm hm=>zlK m oo) hn
def zcU {t:DTerm}  (h0:Is W0 v0 t) (e0:Ext W0 w)  :
   CALL tp 198 [v0] w λr w'=>Ext w w'/\(r=.bool (zbk 6 t)):=by
 refine co (g:=kf [] [] []) Tryz.func198 ?_;refine zat zdj rfl h0 e0 λg0 y1 hA1 g1=>zaF g1 (xrf g0) ?_;refine ((zlK 6 oo) h0 (e0.t y1) rfl).mono ?_;rintro _ w2_ ⟨y2,rfl⟩;refine ⟨(y1.t y2),?_⟩;rfl
def term0:DTerm:=.mk 0 0 (ByteArray.mk #[]) []
def zoO {t:DTerm}  (h0:Is W0 v0 t) (e0:Ext W0 w)  :
   CALL tp 190 [v0] w λr w'=>Ext w w'/\(r=.bool (decide (t=term0))):=by
 refine co (g:=kf [] [] []) Tryz.func190 ?_;refine zat zdj rfl h0 e0 λg0 y1 g1 hV1=>zab zeO<|zac ty3 (zbK g1) (xrf g0) λhI4=>zai<|br (λc1=>?_) (λc1=>?_)
 . refine zab zf7 ?_
   refine zac ty3 (zci g1) (xrf g0) λhI8=>zai<|br (λc2=>?_) (λc2=>?_)
   . refine zab zfi ?_
     refine zaB ty9 (zbS g1) (xrf g0) λg4=>zbe<|br (λc3=>?_) (λc3=>?_)
     . refine zab zcp ?_
       refine zaa ziH (zaZ g1) (xrf g0) λv18 g2=>?_;have g3:=zaj g2;refine zae u51 g2<|zai<|⟨y1,?_⟩;congr 1;rw [decide_eq_decide,DTerm.ext_iff];exact ⟨λh=>⟨c1,c2,c3,qam oo⟩,λh=>by rw [h.2.2.2];rfl⟩
     refine ⟨y1,?_⟩;have:t≠term0:=λe=>c3 (by rw [e];rfl);simp [this]
   refine ⟨y1,?_⟩;have:t≠term0:=λe=>c2 (by rw [e];rfl);simp [this]
 refine ⟨y1,?_⟩;have:t≠term0:=λe=>c1 (by rw [e];rfl);simp [this]
def zkC {t:DTerm} {t2:DTerm}  (h0:Is W0 v0 t) (e0:Ext W0 w) (h1:Is W1 v1 t2) (e1:Ext W1 w) (ht:t2=term0) :
   CALL tp 200 [v0,v1] w λr w'=>Ext w w'/\(r=.bool (decide (t=term0))):=by
 refine co (g:=kf [] [(4,9007182074871856,[5])] [(6,[0,1,2,3,4,5,6,7,8,9,10,11],0)]) Tryz.func200 ?_;subst ht;refine zat zdj rfl h0 e0 λw1_ y1 D hV2=>zat zdj rfl h1 (e1.trans y1) λC y2 g0 hV3=>zab zeO<|zac ty3 (zbK D) y2 λhI7=>zab zeO<|zac ty3 (zbK g0) (xrf C) λhI9=>zaP<|br (λc1=>?_) (λc1=>?_)
 . refine ⟨(y1.t y2),?_⟩
   have:t≠term0:=λe=>c1 (by rw [e]);simp [this]
 refine zab zf7<|zac ty3 (zci D) y2 λgb=>zab zf7<|zac ty3 (zci g0) (xrf C) λgc=>zaP<|br (λc2=>?_) (λc2=>?_)
 . refine ⟨(y1.t y2),?_⟩
   have:t≠term0:=λe=>c2 (by rw [e]);simp [this]
 refine zab zfi<|zaB ty9 (zbS D) y2 λgd=>zab zfi<|zaB ty9 (zbS g0) (xrf C) λgf=>zox<|br (λc3=>?_) (λc3=>?_)
 . refine ⟨(y1.t y2),?_⟩
   have:t≠term0:=λe=>c3 (by rw [e]);simp [this]
 refine zab zcp<|zaa ziH (zaZ D) y2 λv27 g1=>?_;have g2:=zaj g1;refine zae u51 g1<|zab zcp<|zaa ziH (zaZ g0) (xrf C) λv30 g3=>?_;have g4:=zaj g3;refine zae u51 g3<|zaP<|br (λc4=>?_) (λc4=>?_)
 . refine ⟨(y1.t y2),?_⟩
   have:t≠term0:=λe=>c4 (by rw [e]);simp [this]
 refine zao (0) (λk us w'=>us=[.int .i64 (k:Int)]/\Ext C w'/\(True)) (0) oo ⟨sS,xrf C,trivial⟩ ?_;rintro k m4 uu4 gg hk4 ⟨hu,y3,gh⟩;try replace hu:=zbt hu
 try rw [hu]
 try clear hu
 refine zab zcp<|zaa ziH (zaZ D) (y2.t y3) λv36 g5=>?_;have g9:=zaj g5;refine zae u51 g5<|zag<|br (λc5=>?_) (λc5=>?_)
 . have y4:=zah gg
   exact absurd c5 (by have:(term0.kids.length:Int)=0:=rfl;omega)
 refine ⟨(y1.t (y2.t y3)),?_⟩;have:t=term0:=DTerm.ext_iff.2 ⟨qad.1 c1,qad.1 c2,qad.1 c3,qam (by have:(term0.kids.length:Int)=0:=rfl;omega)⟩;simp [this]
def plc (s:ByteArray):List ByteArray->Int
 | []=>-1
 | x :: l=>if x=s then 0 else if plc s l<0 then -1 else plc s l+1
theorem zk7 {s:ByteArray} {l:List ByteArray} (h:s∉l):plc s l=-1:=by
 induction l with
 | nil=>rfl
 | cons x l ih=>
   simp only [qaa,not_or] at h;rw [plc,if_neg (λe=>h.1 e.symm),ih h.2];rfl
theorem znI {s:ByteArray}:∀ {l:List ByteArray} {k:Nat} (hk:k<l.length),s∉l.take k->l[k]=s->plc s l=k
 | x :: l,0,_,_,h=>by simp only [qcX] at h;rw [plc,if_pos h];rfl
 | x :: l,k+1,hk,hn,h=>by
   simp only [List.take_succ_cons,qaa,not_or] at hn;have ih:=znI (by simpa using hk) hn.2 (by simpa using h);rw [plc,if_neg (λe=>hn.1 e.symm),ih,if_neg oo];omega
theorem zlL {s:ByteArray} {l:List ByteArray}:-1<=plc s l/\plc s l<l.length:=by
 induction l with
 | nil=>simp [plc]
 | cons x l ih=>
   rw [plc];split
   . simp only [qaj];omega
   split<;>simp only [qaj]<;>omega
theorem zfR {s:ByteArray} {l:List ByteArray}:0<=plc s l↔s∈l:=by
 induction l with
 | nil=>simp [plc]
 | cons x l ih=>
   rw [plc];split
   . rename_i h;simp [h]
   rename_i h
   rw [qaa,<-ih];have:¬s=x:=λe=>h e.symm;simp only [this,false_or];split<;>omega
def zc7 {l:List ByteArray} {y:ByteArray} (hk:k<l.length) (h:y∉l.take k) (c:¬l[k]=y):y∉l.take (k+1):=by
 rw [tk hk];simp only [qae,qaa,qac,or_false,not_or];exact ⟨h,λe=>c e.symm⟩
def zcC {l:(List ByteArray)} {s:ByteArray}  (h0:Is W0 v0 l) (e0:Ext W0 w)  :
   CALL tp 193 [v0,.string s] w λr w'=>Ext w w'/\(r=.int .i64 (plc s l)):=by
 refine co (g:=kf [] [(2,524272,[5])] []) Tryz.func193 ?_;refine zao (l.length) (λk us w'=>us=[.int .i64 (k:Int)]/\Ext w w'/\(s∉l.take k)) (0) oo ⟨sS,xrf w,sS⟩ ?_;rintro k m2 uu2 w1_ hk2 ⟨hu,y1,C⟩;try replace hu:=zbt hu
 try rw [hu]
 try clear hu
 have g0:=zaj h0;refine zae u24 h0<|zag<|br (λc1=>?_) (λc1=>?_)
 . refine zad u24 ty9 h0 oo λb14 o14 g1=>?_
   refine zaB ty9 g1 (e0.t y1) λg2=>zbe<|br (λc2=>?_) (λc2=>?_)
   . refine ⟨y1,?_⟩
     rw [znI oo C c2]
   refine zau<|⟨m2-1,oo,k+1,oo,sS,y1,?_⟩;exact zc7 oo C c2
 refine ⟨y1,?_⟩;rw [qaf oo] at C;rw [zk7 C]
def zgI {l:(List ByteArray)} {s:ByteArray}  (h0:Is W0 v0 l) (e0:Ext W0 w)  :
   CALL tp 121 [v0,.string s] w λr w'=>Ext w w'/\(r=.int .i64 (plc s l)):=by
 refine co (g:=kf [] [(2,524080,[8])] []) Tryz.func121 ?_;have g0:=zaj h0;refine zae u24 h0<|zao (l.length) (λk us w'=>us=[.int .i64 (k:Int)]/\Ext w w'/\(s∉l.take k)) (0) oo ⟨sS,xrf w,sS⟩ ?_;rintro k m2 uu2 w1_ hk2 ⟨hu,y1,C⟩;try replace hu:=zbt hu
 try rw [hu]
 try clear hu
 refine zag<|br (λc1=>?_) (λc1=>?_)
 . refine zad u24 ty9 h0 oo λb14 o14 g1=>?_
   refine zaB ty9 g1 (e0.t y1) λg2=>zbe<|br (λc2=>?_) (λc2=>?_)
   . refine ⟨y1,?_⟩
     rw [znI oo C c2.symm]
   refine zau<|⟨m2-1,oo,k+1,oo,sS,y1,?_⟩;exact zc7 oo C (λe=>c2 e.symm)
 refine ⟨y1,?_⟩;rw [qaf oo] at C;rw [zk7 C]
def zc8 {l:(List ByteArray)} {s:ByteArray}  (h0:Is W0 v0 l) (e0:Ext W0 w)  :
   CALL tp 99 [v0,.string s] w λr w'=>Ext w w'/\(r=.bool (decide (s∈l))):=by
 refine co (g:=kf [] [] []) Tryz.func99 ?_;refine (zgI h0 e0).mono ?_;rintro _ w1_ ⟨y1,rfl⟩;refine zcb<|⟨y1,?_⟩;simp [zfR]
def zlM {l:(List ByteArray)} {s:ByteArray}  (h0:Is W0 v0 l) (e0:Ext W0 w)  :
   CALL tp 237 [v0,.string s] w λr w'=>Ext w w'/\(r=.bool (decide (s∈l))):=by
 refine co (g:=kf [] [(2,262128,[5])] []) Tryz.func237 ?_;refine zao (l.length) (λk us w'=>us=[.int .i64 (k:Int)]/\Ext w w'/\(s∉l.take k)) (0) oo ⟨sS,xrf w,sS⟩ ?_;rintro k m2 uu2 w1_ hk2 ⟨hu,y1,C⟩;try replace hu:=zbt hu
 try rw [hu]
 try clear hu
 have g0:=zaj h0;refine zae u24 h0<|zag<|br (λc1=>?_) (λc1=>?_)
 . refine zad u24 ty9 h0 oo λb14 o14 g1=>?_
   refine zaB ty9 g1 (e0.t y1) λg2=>zbe<|br (λc2=>?_) (λc2=>?_)
   . refine ⟨y1,?_⟩
     have:s∈l:=c2▸qab _;simp [this]
   refine zau<|⟨m2-1,oo,k+1,oo,sS,y1,?_⟩;exact zc7 oo C c2
 refine ⟨y1,?_⟩;rw [qaf oo] at C;simp [C]
def zil {l:(List ByteArray)} {m:Int}  (h0:Is W0 v0 l) (e0:Ext W0 w)  :
   CALL tp 175 [v0,.int .i64 m] w λr w'=>Ext w w'/\(r=.bool (decide ((l.length:Int)<=m)&&l.all zbF)):=by
 refine co (g:=kf [] [(4,2089040,[13])] []) Tryz.func175 ?_;have g2:=zaj h0;refine zae u24 h0<|zcK<|br (λc1=>?_) (λc1=>?_)
 . refine ⟨xrf w,?_⟩
   simp [show ¬(l.length:Int)<=m by omega]
 have g1:=zaj h0;refine zae u24 h0<|zao (l.length) (λk us w'=>us=[.int .i64 (k:Int)]/\Ext w w'/\((l.take k).all zbF=true)) (0) oo ⟨sS,xrf w,sS⟩ ?_;rintro k m4 uu4 w1_ hk4 ⟨hu,y1,g0⟩;try replace hu:=zbt hu
 try rw [hu]
 try clear hu
 refine zag<|br (λc2=>?_) (λc2=>?_)
 . refine zad u24 ty9 h0 oo λb15 o15 g3=>?_
   refine zaB ty9 g3 (e0.t y1) λg4=>?_;refine (ziV ).mono ?_;rintro _ w2_ ⟨y2,rfl⟩;refine zaV<|zbz (λc3=>?_) (λc3=>?_)
   . refine ⟨(y1.t y2),?_⟩
     simp only [ziY (p:=zbF) (l:=l) (k:=k) oo (by simpa using c3),qbl]
   have hln:=zaj h0;refine zau<|⟨m4-1,oo,k+1,oo,sS,(y1.t y2),?_⟩;exact zk5 oo g0 (by simpa using c3)
 refine ⟨y1,?_⟩;simp [zk6 (p:=zbF) (l:=l) oo g0,show (l.length:Int)<=m by omega]
def zfk {l:(List ByteArray)} {m:Int}  (h0:Is W0 v0 l) (e0:Ext W0 w)  :
   CALL tp 194 [v0,.int .i64 m] w λr w'=>Ext w w'/\(r=.bool (decide ((l.length:Int)<=m)&&l.all zbF)):=by
 refine co (g:=kf [] [(4,4193328,[5])] []) Tryz.func194 ?_;have g2:=zaj h0;refine zae u24 h0<|zcK<|br (λc1=>?_) (λc1=>?_)
 . refine ⟨xrf w,?_⟩
   simp [show ¬(l.length:Int)<=m by omega]
 refine zao (l.length) (λk us w'=>us=[.int .i64 (k:Int)]/\Ext w w'/\((l.take k).all zbF=true)) (0) oo ⟨sS,xrf w,sS⟩ ?_;rintro k m4 uu4 w1_ hk4 ⟨hu,y1,g0⟩;try replace hu:=zbt hu
 try rw [hu]
 try clear hu
 have g1:=zaj h0;refine zae u24 h0<|zag<|br (λc2=>?_) (λc2=>?_)
 . refine zad u24 ty9 h0 oo λb18 o18 g3=>?_
   refine zaB ty9 g3 (e0.t y1) λg4=>?_;refine (zcw ).mono ?_;rintro _ w2_ ⟨y2,rfl⟩;refine zaV<|zbz (λc3=>?_) (λc3=>?_)
   . refine ⟨(y1.t y2),?_⟩
     simp only [ziY (p:=zbF) (l:=l) (k:=k) oo (by simpa using c3),qbl]
   refine zau<|⟨m4-1,oo,k+1,oo,sS,(y1.t y2),?_⟩;exact zk5 oo g0 (by simpa using c3)
 refine ⟨y1,?_⟩;simp [zk6 (p:=zbF) (l:=l) oo g0,show (l.length:Int)<=m by omega]
instance decNodup:∀ (l:List ByteArray),Decidable l.Nodup
 | []=>isTrue qaq
 | x :: l=>match decMemBA x l,decNodup l with
   | isFalse h,isTrue h'=>isTrue (qaM.2 ⟨h,h'⟩)
   | isTrue h,_=>isFalse λe=>(qaM.1 e).1 h
   | _,isFalse h=>isFalse λe=>h (qaM.1 e).2
def zEh {l:List ByteArray} (hk:k<l.length) (h:l[k]∈l.drop (k+1)):¬l.Nodup:=λhn=>by
 have e:l=l.take k++(l[k] :: l.drop (k+1)):=by simp
 rw [e,qao] at hn;exact (qaM.1 hn.2.1).1 h
def zCH {l:List ByteArray} (hk:k<l.length) (h:l[k]∈l.take k):¬l.Nodup:=λhn=>by
 have e:l=l.take k++(l[k] :: l.drop (k+1)):=by simp
 rw [e,qao] at hn;exact hn.2.2 _ h _ List.mem_cons_self rfl
def zlN {l:List ByteArray} (hk:k<l.length) (h:(l.take k).Nodup) (c:l[k]∉l.take k):(l.take (k+1)).Nodup:=by
 rw [tk hk,qao];refine ⟨h,sS,λa ha b hb e=>?_⟩;simp only [qaa,qac,or_false] at hb;subst e;subst hb;exact c ha
theorem zid:∀ {l:List ByteArray},(∀ (k:Nat) (hk:k<l.length),l[k]∉l.drop (k+1))->l.Nodup
 | [],_=>qaq
 | x :: l,h=>qaM.2 ⟨h 0 sS,zid λk hk=>h (k+1) (by simpa using hk)⟩
def zim {l:(List ByteArray)}  (h0:Is W0 v0 l) (e0:Ext W0 w)  :
   CALL tp 97 [v0] w λr w'=>Ext w w'/\(r=.bool (decide (¬l.Nodup))):=by
 refine co (g:=kf [] [(2,524188,[7])] []) Tryz.func97 ?_;have g1:=zaj h0;refine zae u24 h0<|zao (l.length) (λk us w'=>us=[.int .i64 (k:Int)]/\Ext w w'/\(∀ (j:Nat) (hj:j<l.length),j<k->l[j]∉l.drop (j+1))) (0) oo ⟨sS,xrf w,λj hj h=>oo⟩ ?_;rintro k m2 uu2 w1_ hk2 ⟨hu,y1,g0⟩;try replace hu:=zbt hu
 try rw [hu]
 try clear hu
 have hln:=zaj h0;refine zag<|br (λc1=>?_) (λc1=>?_)
 . refine zad u24 ty9 h0 oo λb10 o10 g2=>?_
   refine zaB ty9 g2 (e0.t y1) λg3=>zau<|zgA u24 ty9 h0 oo oo λv15 g4=>?_;refine (zc8 g4 (e0.t y1)).mono ?_;rintro _ w2_ ⟨y2,rfl⟩;refine br (λc2=>?_) (λc2=>?_)
   . refine ⟨(y1.t y2),?_⟩
     simp [zEh oo c2]
   refine zau<|⟨m2-1,oo,k+1,oo,sS,(y1.t y2),?_⟩;intro j hj hjk;by_cases h:j=k
   . subst h;exact c2
   exact g0 j hj oo
 refine ⟨y1,?_⟩;simp [zid λj hj=>g0 j hj oo]
def zei {l:(List ByteArray)}  (h0:Is W0 v0 l) (e0:Ext W0 w)  :
   CALL tp 195 [v0] w λr w'=>Ext w w'/\(r=.bool (decide (¬l.Nodup))):=by
 refine co (g:=kf [] [(2,262140,[3])] [(4,[0,1,2,3,4,5,6,7],0)]) Tryz.func195 ?_;refine zao (l.length) (λk us w'=>us=[.int .i64 (k:Int)]/\Ext w w'/\((l.take k).Nodup)) (0) oo ⟨sS,xrf w,sS⟩ ?_;rintro k m2 uu2 g0 hk2 ⟨hu,y1,C⟩;try replace hu:=zbt hu
 try rw [hu]
 try clear hu
 have hln:=zaj h0;have g1:=zaj h0;refine zae u24 h0<|zag<|br (λc1=>?_) (λc1=>?_)
 . have y2:=zah g0
   refine zlH u24 ty9 h0 oo oo λv12 g2=>zad u24 ty9 h0 oo λb15 o15 g3=>zaB ty9 g3 (e0.t (y1.t y2)) λg4=>?_;refine (zlM g2 (e0.t (y1.t y2))).mono ?_;rintro _ w3_ ⟨y3,rfl⟩;refine br (λc2=>?_) (λc2=>?_)
   . refine ⟨(y1.t (y2.t y3)),?_⟩
     simp [zCH oo c2]
   refine zau<|⟨m2-1,oo,k+1,oo,sS,(y1.t (y2.t y3)),?_⟩;exact zlN oo C c2
 refine ⟨y1,?_⟩;rw [qaf oo] at C;simp [C]
def zwc (l:List ByteArray) (s:ByteArray):List ByteArray:=if s∈l then l else l++[s]
def zzM (l:List ByteArray) (s:ByteArray):(zwc l s).length<=l.length+1:=by unfold zwc;split<;>simp
def readsT:Nat->DTerm->List ByteArray->List ByteArray
 | n,t,l=>if t.kind=2 then zwc l t.name else match n with | 0=>l | m+1=>t.kids.foldl (λl k=>readsT m k l) l
def zej (n:Nat) (t:DTerm) (l:List ByteArray):readsT n t l=if t.kind=2 then zwc l t.name else match n with | 0=>l | m+1=>t.kids.foldl (λl k=>readsT m k l) l:=readsT.eq_def n t l
def znJ {α β:Type} (f:β->α->β) (b:β) {l:List α} {k:Nat} (hk:k<l.length):(l.take (k+1)).foldl f b=f ((l.take k).foldl f b) l[k]:=by
 rw [tk hk,List.foldl_append];rfl
theorem zlO {t:DTerm} (h:zbk n t=true) (h2:¬t.kind=2):t.kids=[]\/∃ m,n=m+1/\t.kids.length<=2/\∀ k∈t.kids,zbk m k=true:=by
 by_cases h1:t.kind=1
 . rw [zeV h1] at h
   simp only [qap,decide_eq_true_eq] at h;exact .inl (qam oo)
 rw [zbE h1 h2] at h;simp only [qap,decide_eq_true_eq] at h;obtain ⟨⟨_,h3⟩,h4⟩:=h;cases n with
 | zero=>simp at h4
 | succ m=>
   refine .inr ⟨m,rfl,?_,λk hk=>qaI.1 h4 k hk⟩;split at h3<;>omega
theorem zjK:∀ (n:Nat) (t:DTerm) (l:List ByteArray),zbk n t=true->(readsT n t l).length<=l.length+2^n
 | n,t,l,h=>by
   rw [zej];have hp:1<=2^n:=qck;split
   . have:=zzM l t.name;omega
   rename_i h2
   rcases zlO h h2 with hk | ⟨m,rfl,hk,hall⟩
   . cases n with
     | zero=>simp
     | succ m=>simp [hk]
   show (t.kids.foldl (λl k=>readsT m k l) l).length<=_
   have key:∀ (ks:List DTerm) (l:List ByteArray),(∀ k∈ks,zbk m k=true)->(ks.foldl (λl k=>readsT m k l) l).length<=l.length+ks.length*2^m:=by
     intro ks
     induction ks with
     | nil=>intro l _;simp
     | cons k ks ih=>
       intro l g0;rw [qbw,qaj,qbi,qbS];have h1:=ih (readsT m k l) λx hx=>g0 x (by simp [hx]);have h2:=zjK m k l (g0 k sS);omega
   have h1:=key t.kids l hall;have h2:t.kids.length*2^m<=2*2^m:=qa5 _ hk;rw [qc9];omega
def ztA {l:List ByteArray} {s:ByteArray} {K:VW} (hr:RowF F 9 w v l) (hn:F.Nodup) (hs:s.size<=maxLen) (hl:l.length<=1000000)
   (k:∀ v' w',Chg F w w'->(∃ F',RowF F' 9 w' v' (l++[s])/\F'.Nodup/\∀ b∈F',b∈F\/w.heap.size<=b)->K v' w') :
   OP tp (Instr.buildSlice 24 1 #[(0,.string s)]) w λx w1=>OP tp (Builtin.append_ #[24,24] ty [v,x].toArray) w1 K:=by
 refine ziX (α:=ByteArray) (x:=s) (F:=[]) u24 ty9 z9 qd ⟨⟨_,⟨rfl,rfl,hs⟩,rfl⟩,qaq,Wr.nil _⟩ λw1 g0 g3=>?_;obtain ⟨a,cap,Fi,xs,he,h1,h2,hc,h4⟩:=zcT g3.is;have g4:=Cells.flat (xs:=xs) hc;subst g4;refine zf3 (α:=ByteArray) (m:=[s]) u24 ty9 zc9 (hr.ext g0) hn he hc (.inr ?_) (Wr.nil _) (by simpa using hn) (by simp only [qaj,qay,zal];omega) (by simp only [qaj,qay];omega) λv' w' F' g5 g2 g9 gb gc=>?_
 . rcases h4 with h4 | ⟨b,o,ha,gd,_⟩
   . simp at h4
   exact ⟨b,o,ha,gd⟩
 have g1:∀ c∈v.ownBlock.toList,c∈F:=λc hc=>by
   obtain ⟨xs,Fi,_,_,rfl,_⟩:=hr;simp only [qae];exact .inl hc
 refine k v' w' ((Ext.chg F g0).trans (g5.mono g1)) ⟨F',g9,gb,λb hb=>?_⟩;rcases gc b hb with h | h | h
 . exact .inl h
 . simp at h
 exact .inr (qan g0.size h)
def zu0 {l:List ByteArray} {s:ByteArray} (hr:RowF F 9 w v l) (hn:F.Nodup) (hs:s.size<=maxLen) (hl:l.length<=1000000) :
   CALL tp 179 [v,.string s] w λr w'=>Chg F w w'/\∃ F',RowF F' 9 w' r (zwc l s)/\F'.Nodup/\∀ b∈F',b∈F\/w.heap.size<=b:=by
 refine co (g:=kf [] [] []) Tryz.func179 ?_;refine (zc8 hr.own.is (xrf w)).mono ?_;rintro _ w1 ⟨C,rfl⟩;refine br (λc1=>?_) (λc1=>?_)
 . exact ⟨Ext.chg F C,F,by unfold zwc;rw [if_pos c1];exact hr.ext C,hn,λb hb=>.inl hb⟩
 refine ztA (hr.ext C) hn hs hl λv' w' hc ⟨F',h1,h2,h3⟩=>⟨(Ext.chg F C).trans hc,F',by unfold zwc;rw [if_neg c1];exact h1,h2,λb hb=>?_⟩;rcases h3 b hb with h | h
 . exact .inl h
 exact .inr (qan C.size h)
def zoP (F:List Nat) (w:World) (l:List ByteArray) (r:Value) (w':World):Prop:=Chg F w w'/\∃ F',RowF F' 9 w' r l/\F'.Nodup/\∀ b∈F',b∈F\/w.heap.size<=b
def zEZ (n:Nat):Prop:=∀ {w W:World} {v u:Value} {t:DTerm} {l:List ByteArray} {F:List Nat},Is W v t->Ext W w->RowF F 9 w u l->F.Nodup->(∀ b∈F,W.heap.size<=b)->zbk n t=true->l.length+2^n<=1000 ->
 CALL tp 243 [u,v] w (zoP F w (readsT n t l))
def zE0 (n:Nat):Prop:=∀ {w W:World} {v u:Value} {t:DTerm} {l:List ByteArray} {F:List Nat},Is W v t->Ext W w->RowF F 9 w u l->F.Nodup->(∀ b∈F,W.heap.size<=b)->zbk n t=true->l.length+2^n<=1000 ->
 CALL tp 247 [v,u] w (zoP F w (readsT n t l))
def zk8 {t:DTerm} {l:List ByteArray} (h:t.kind=2):readsT n t l=zwc l t.name:=by rw [zej,if_pos h]
def zlP {t:DTerm} {l:List ByteArray} (h:zbk n t=true) (h2:¬t.kind=2) (hl:l.length+2^n<=1000) :
   ∃ m,(t.kids=[]\/n=m+1)/\readsT n t l=t.kids.foldl (λl k=>readsT m k l) l/\(∀ k∈t.kids,zbk m k=true)/\∀ k,k<t.kids.length->((t.kids.take k).foldl (λl k=>readsT m k l) l).length+2^m<=1000:=by
 rcases zlO h h2 with hk | ⟨m,rfl,hk,g0⟩
 . refine ⟨0,.inl hk,?_,by simp [hk],by simp [hk]⟩
   rw [zej,if_neg h2,hk];cases n<;>rfl
 refine ⟨m,.inr rfl,by rw [zej,if_neg h2],g0,λk hkl=>?_⟩;rw [qc9] at hl
 have g2:∀ (ks:List DTerm) (l:List ByteArray),(∀ k∈ks,zbk m k=true)->(ks.foldl (λl k=>readsT m k l) l).length<=l.length+ks.length*2^m:=by
   intro ks
   induction ks with
   | nil=>intro l _;simp
   | cons k ks ih=>
     intro l g1;rw [qbw,qaj,qbi,qbS];have h1:=ih (readsT m k l) λx hx=>g1 x (by simp [hx]);have h2:=zjK m k l (g1 k sS);omega
 have h1:=g2 (t.kids.take k) l λx hx=>g0 x (qbc hx);have h3:(t.kids.take k).length<=1:=by simp;omega
 have h4:(t.kids.take k).length*2^m<=1*2^m:=qa5 _ h3;omega
def ztB {t:DTerm} (h:AtB W w b o t):AtB W w b (o+3) t.kids:=by
 have h':AtB W w b o t.tup:=by obtain ⟨F,cs,hr,ha⟩:=h;exact ⟨F,cs,zih.1 hr,ha⟩
 exact h'.snd.snd.snd
def zoQ (ih:∀ m,m+1=n->zEZ m):zEZ n:=by
 intro w W v u t l F h e hr hn hF ht hl;refine co (g:=kf [] [(4,33423425,[0,17])] []) Tryz.func243 ?_;refine zat zdj rfl h e λw1 I hA hV=>zab zeO<|zac ty3 (zbK hA) (xrf w1) λ_=>zai<|br (λc1=>?_) (λc1=>?_)
 . refine zab zfi ?_
   refine zaB ty9 (zbS hA) (xrf w1) λhS=>?_;have hp:1<=2^n:=qck;refine (zu0 (hr.ext I) hn hS oo).mono ?_;rintro r w2 ⟨hc,F',h1,h2,h3⟩;refine ⟨(Ext.chg F I).trans hc,F',by rw [zk8 c1];exact h1,h2,λb hb=>?_⟩;rcases h3 b hb with h | h
   . exact .inl h
   exact .inr (qan I.size h)
 obtain ⟨m,hm,he,gg,g1⟩:=zlP ht c1 hl;refine zab zcp<|zfj ziH (ztB (zgF h hV rfl)) (e.trans I) (xrf w1) λv15 g2=>zae u51 g2 ?_;have hll:=zaj g2;refine zao t.kids.length (λk us w'=>∃ q,us=[q,.int .i64 (k:Int)]/\zoP F w ((t.kids.take k).foldl (λl k=>readsT m k l) l) q w') 0 (z0 _) ⟨u,rfl,Ext.chg F I,F,by simpa using hr.ext I,hn,λb hb=>.inl hb⟩ ?_;rintro k mm uu w2 hkm ⟨q,hu,C,F2,g3,gb,g0⟩;obtain ⟨gh,gi⟩:=zcB hu;try rw [gh]
 try rw [gi]
 have gj:∀ b∈F2,W.heap.size<=b:=λb hb=>by
   rcases g0 b hb with h | h
   . exact hF b h
   exact qan e.size h
 have g4:Ext W w2:=e.chg_trans C hF;refine zag<|br (λc2=>?_) (λc2=>?_)
 . have hk:k<t.kids.length:=oo
   obtain ⟨m',rfl⟩:∃ m',n=m'+1:=by
     rcases hm with h | h
     . rw [h] at hk;simp at hk
     exact ⟨m,h⟩
   have gl:m'=m:=by
     rcases hm with h | h
     . rw [h] at hk;simp at hk
     omega
   subst gl;refine zad u51 zdj g2 hk λb o gp=>zaa zdj gp g4 λv20 gc=>zck zDA rfl zdj rfl gc g4 λw3 D hA3 gq=>zaF gq (xrf w3) ?_;refine (ih m' rfl gc (g4.t D) (g3.ext D) gb gj (gg _ (qab hk)) (g1 k hk)).mono ?_;rintro r w4 ⟨M,F4,gr,gs,gt⟩;refine zau<|⟨mm-1,oo,k+1,oo,r,rfl,?_⟩;refine ⟨?_,F4,by rw [znJ _ _ hk];exact gr,gs,λb hb=>?_⟩
   . -- the blocks of F alone have g5
     refine ⟨M.os.trans (D.os.trans C.os),M.tape.trans (D.tape.trans C.tape),M.output.trans (D.output.trans C.output),qan C.size (qan D.size M.size),λb hb gd=>?_⟩;have gf:b<w2.heap.size:=qal hb C.size
     have g9:b∉F2:=λhm=>by
       rcases g0 b hm with h | h
       . exact gd h
       omega
     rw [M.block b (qal gf D.size) g9,D.heap gf,C.block b hb gd]
   rcases gt b hb with h | h
   . exact g0 b h
   have:=D.size;have:=C.size;exact .inr oo
 rw [qaf oo,<-he] at g3;exact ⟨C,F2,g3,gb,g0⟩
theorem zlQ:∀ n,zEZ n
  | n=>zoQ λm hm=>zlQ m
termination_by n=>n
decreasing_by omega
def zoR (ih:∀ m,m+1=n->zE0 m):zE0 n:=by
 intro w W v u t l F h e hr hn hF ht hl;refine co (g:=kf [] [(3,16776240,[5]),(9,8795556151362,[1,6])] [(5,[0,1,2,3,4,5,6],0)]) Tryz.func247 ?_;have g0:=zaj hr.own.is;have hp:1<=2^n:=qck;refine zat zdj rfl h e λw1 D hA hV=>?_;have gg:w.heap.size<w1.heap.size:=hV.lt;have gh:w.heap.size∉F:=λhm=>by have:=hr.lt _ hm;omega
 refine zab zeO<|zac ty3 (zbK hA) (xrf w1) λ_=>zai<|br (λc1=>?_) (λc1=>?_)
 . have g1:=hr.ext D
   refine zao l.length (λk us w'=>us=[.int .i64 (k:Int)]/\Ext w1 w'/\t.name∉l.take k) 0 (z0 _) ⟨rfl,xrf w1,sS⟩ ?_;rintro k mm uu w2 gi ⟨hu,M,I⟩;try replace hu:=zbt hu
   rw [hu];refine zae u24 g1.own.is<|zag<|br (λc2=>?_) (λc2=>?_)
   . have hk:k<l.length:=oo
     have O:=M.t (zah w2);refine zad u24 ty9 g1.own.is hk λb o g4=>zaB ty9 g4 O λ_=>zab zfi<|zaB ty9 (zbS hA) O λ_=>zbe<|br (λc3=>?_) (λc3=>?_)
     . have hm:t.name∈l:=c3▸qab hk
       refine ⟨Ext.chg F (D.t O),F,?_,hn,λb hb=>.inl hb⟩;rw [zk8 c1,zwc,if_pos hm];exact g1.ext O
     refine zau<|⟨mm-1,oo,k+1,oo,rfl,O,zc7 hk I c3⟩
   rw [qaf oo] at I;have O:=M.t (zah w2)
   first
     | refine zab zfi ?_
     | skip
   refine zaB ty9 (zbS hA) M λhS=>ztA (g1.ext M) hn hS oo λv' w' hc ⟨F',h1,h2,h3⟩=>⟨(Ext.chg F (D.t M)).trans hc,F',by rw [zk8 c1,zwc,if_neg I];exact h1,h2,λb hb=>?_⟩;rcases h3 b hb with h | h
   . exact .inl h
   exact .inr (qan (D.t M).size h)
 obtain ⟨m,hm,he,gj,g0⟩:=zlP ht c1 hl;refine zao t.kids.length (λk us w'=>∃ q,us=[q,.int .i64 (k:Int)]/\zoP F w1 ((t.kids.take k).foldl (λl k=>readsT m k l) l) q w') 0 (z0 _) ⟨u,rfl,Chg.refl F w1,F,by simpa using hr.ext D,hn,λb hb=>.inl hb⟩ ?_;rintro k mm uu w2 gi ⟨q,hu,C,F2,g5,gb,g2⟩;obtain ⟨gl,gp⟩:=zcB hu;try rw [gl]
 try rw [gp]
 have gq:∀ b∈F2,W.heap.size<=b:=λb hb=>by
   rcases g2 b hb with h | h
   . exact hF b h
   have:=e.size;have:=D.size;omega
 have g3:Ext W w2:=(e.trans D).chg_trans C hF;have gc:AtB W w2 w.heap.size 0 t:=(zgF h hV rfl).keep (C.block _ gg gh);have g4:=gc.at g3;refine zab zcp<|zaa ziH (zaZ g4) (xrf w2) λv31 gd=>zae u51 gd ?_;have hll:=zaj gd;refine zag<|br (λc2=>?_) (λc2=>?_)
 . have hk:k<t.kids.length:=oo
   obtain ⟨m',rfl⟩:∃ m',n=m'+1:=by
     rcases hm with h | h
     . rw [h] at hk;simp at hk
     exact ⟨m,h⟩
   have gr:m'=m:=by
     rcases hm with h | h
     . rw [h] at hk;simp at hk
     omega
   subst gr;refine zab zcp<|zfj ziH (ztB gc) g3 (xrf w2) λv37 gs=>zad u51 zdj gs hk λb o gt=>zaa zdj gt g3 λv40 gx=>?_;refine (ih m' rfl gx g3 g5 gb gq (gj _ (qab hk)) (g0 k hk)).mono ?_;rintro r w4 ⟨U,F4,gy,gz,gC⟩;refine zau<|⟨mm-1,oo,k+1,oo,r,rfl,?_⟩;refine ⟨?_,F4,by rw [znJ _ _ hk];exact gy,gz,λb hb=>?_⟩
   . refine ⟨U.os.trans C.os,U.tape.trans C.tape,U.output.trans C.output,qan C.size U.size,λb hb gf=>?_⟩
     have gD:b<w2.heap.size:=qal hb C.size
     have g9:b∉F2:=λhm=>by
       rcases g2 b hm with h | h
       . exact gf h
       omega
     rw [U.block b gD g9,C.block b hb gf]
   rcases gC b hb with h | h
   . exact g2 b h
   have:=C.size;exact .inr oo
 rw [qaf oo,<-he] at g5;refine ⟨(Ext.chg F D).trans C,F2,g5,gb,λb hb=>?_⟩;rcases g2 b hb with h | h
 . exact .inl h
 exact .inr (qan D.size h)
theorem zlR:∀ n,zE0 n
  | n=>zoR λm hm=>zlR m
termination_by n=>n
decreasing_by omega
def zbT (t:DTerm):List ByteArray:=if zbk 6 t=true then readsT 6 t [] else []
def zr9 (t:DTerm):(zbT t).length<=64:=by
 unfold zbT;split
 . have:=zjK 6 t [] aA;simpa using this
 simp
def zzN {α:Type} [Rep α] (e:TypeId) (w:World):RowF (α:=α) [] e w (.slice none 0 0) []:=⟨[],[],⟨sS,.inl ⟨rfl,rfl⟩⟩,⟨rfl,rfl⟩,rfl,Wr.nil _⟩
def zfS {t:DTerm} (h:Is W v t) (e:Ext W w):CALL tp 182 [v] w λr w'=>Ext w w'/\Is w' r (zbT t):=by
 refine co (g:=kf [] [] []) Tryz.func182 ?_;refine zat zdj rfl h e λw1 g0 hA hV=>zaF hV (xrf w1) ?_;refine (zgH h (e.trans g0)).mono ?_;rintro _ w2 ⟨g1,rfl⟩;refine zaV<|zbz (λc=>?_) (λc=>?_)
 . refine ⟨g0.t g1,?_⟩
   unfold zbT;rw [if_neg (by simpa using c)];exact zDQ rfl
 have c:zbk 6 t=true:=by simpa using c
 refine zaF hV g1 ?_;refine (zlQ 6 h ((e.trans g0).trans g1) (zzN _ _) qaq sS c qd).mono ?_;rintro r w3 ⟨hc,F',hr,hn,hs⟩;refine ⟨(g0.t g1).trans (Chg.ext hc),?_⟩;unfold zbT;rw [if_pos c];exact hr.own.is
def zeo {t:DTerm} (h:Is W v t) (e:Ext W w):CALL tp 199 [v] w λr w'=>Ext w w'/\Is w' r (zbT t):=by
 refine co (g:=kf [] [] []) Tryz.func199 ?_;refine zat zdj rfl h e λw1 g1 hA hV=>zaF hV (xrf w1) ?_;refine (zcU h (e.trans g1)).mono ?_;rintro _ w2 ⟨g2,rfl⟩;refine zaV<|zbz (λc=>?_) (λc=>?_)
 . refine ziQ (α:=ByteArray) u24 ty9 λa w3 g0 g3=>?_
   refine ⟨(g1.t g2).trans g0,?_⟩;unfold zbT;rw [if_neg (by simpa using c)];exact g3.is
 have c:zbk 6 t=true:=by simpa using c
 refine zaF hV g2<|ziQ (α:=ByteArray) u24 ty9 λa w3 g0 g3=>?_;obtain ⟨F,hr,hn,hl⟩:=g3;have C:=(g1.t g2);refine (zlR 6 h ((e.trans C).trans g0) hr hn (λb hb=>qan (e.trans C).size (hl b hb)) c qd).mono ?_;rintro r w4 ⟨hc,F',g4,hn',hs'⟩;refine ⟨(C.t g0).chg_trans hc (λb hb=>qan C.size (hl b hb)),?_⟩;unfold zbT;rw [if_pos c];exact g4.own.is
def zzn (l:List ByteArray):Nat:=l.length+sm ByteArray.size l
mutual
def wT:DTerm->Nat
  | .mk _ _ s ks=>s.size+wTs ks
def wTs:List DTerm->Nat
  | []=>0
  | t :: r=>1+wT t+wTs r
end
theorem zxl (l:List DTerm):wTs l=l.length+sm wT l:=by
 induction l with
 | nil=>simp [wTs,sm]
 | cons t l ih=>rw [wTs,ih];simp [sm];omega
def zCI (t:DTerm):wT t=t.name.size+wTs t.kids:=by cases t;rw [wT];rfl
def zE1 (l:List DIns):Nat:=l.length+sm (λi=>wT i.term) l
def zu1 (c:DCode):Nat:=zzn c.globals+zzn c.locks+zzn c.procs+c.entry.length+zE1 c.ins
end Go.Proofs.YtcnglfeoglgebaaGreat
