/-
  Parts of the proof, put together by program.
-/
import Derived.Test.YtdmailcgaekimaaGreatPFnSeen1
set_option linter.unusedVariables false
set_option linter.unusedSimpArgs false
set_option linter.unusedSectionVars false
namespace Go.Sh
open Rep (rep)
inductive DTerm where
 | mk (kind num:Int) (name:ByteArray) (kids:List DTerm)
namespace DTerm
def kind:DTerm→Int | .mk k _ _ _=>k
def num:DTerm→Int | .mk _ n _ _=>n
def name:DTerm→ByteArray | .mk _ _ s _=>s
def kids:DTerm→List DTerm | .mk _ _ _ l=>l
def tup (t:DTerm):Int×Int×ByteArray×List DTerm:=(t.kind,t.num,t.name,t.kids)
end DTerm
theorem DTerm.eta (t:DTerm):DTerm.mk t.kind t.num t.name t.kids=t:=by cases t;rfl
theorem DTerm.ext_iff {x y:DTerm}:x=y↔(x.kind=y.kind∧x.num=y.num∧x.name=y.name∧x.kids=y.kids):=by
 constructor
 · intro h;rw [h];exact ⟨rfl,rfl,rfl,rfl⟩
 rintro ⟨h1,h2,h3,h4⟩
 rw [←DTerm.eta x,←DTerm.eta y,h1,h2,h3,h4]
theorem DTerm.kid_lt {t k:DTerm} (h:k∈t.kids):SizeOf.sizeOf k<SizeOf.sizeOf t:=by
 cases t with
 | mk a b c l=>
   have:k∈l:=h
   have:=List.sizeOf_lt_of_mem this
   simp only [DTerm.mk.sizeOf_spec];omega
theorem DTerm.ind {p:DTerm→Prop} (h:∀ t,(∀ k∈t.kids,p k)→p t) (t:DTerm):p t:=
  h t fun k hk=>DTerm.ind h k
termination_by SizeOf.sizeOf t
decreasing_by exact DTerm.kid_lt hk
mutual
def DTerm.beq:DTerm→DTerm→Bool
  | .mk a b c l,.mk a' b' c' l'=>decide (a=a')&&decide (b=b')&&decide (c=c')&&DTerm.beqL l l'
def DTerm.beqL:List DTerm→List DTerm→Bool
  | [],[]=>true
  | x :: l,y :: m=>DTerm.beq x y&&DTerm.beqL l m
  | _,_=>false
end
mutual
theorem DTerm.beq_iff:∀ (x y:DTerm),DTerm.beq x y=true↔x=y
  | .mk a b c l,.mk a' b' c' l'=>by
    simp only [DTerm.beq,Bool.and_eq_true,decide_eq_true_eq,DTerm.mk.injEq,DTerm.beqL_iff l l',and_assoc]
theorem DTerm.beqL_iff:∀ (x y:List DTerm),DTerm.beqL x y=true↔x=y
  | [],[]=>by simp [DTerm.beqL]
  | [],y :: m=>by simp [DTerm.beqL]
  | x :: l,[]=>by simp [DTerm.beqL]
  | x :: l,y :: m=>by simp only [DTerm.beqL,Bool.and_eq_true,DTerm.beq_iff x y,DTerm.beqL_iff l m,List.cons.injEq]
end
instance:DecidableEq DTerm:=fun x y=>decidable_of_iff _ (DTerm.beq_iff x y)
mutual
def zl2:DTerm→List Nat→World→List Value→Prop
  | .mk k n s ks,F,w,cs=>∃ a cap Fi xs,cs=[.int .i64 k,.int .i64 n,.string s,.slice a ks.length cap]∧I64 k∧I64 n∧s.size≤maxLen∧ks.length≤cap∧cap≤maxLen∧zd4 ks Fi w xs ∧
    ((ks=[]∧F=[])∨∃ b o,a=some ⟨b,o,none⟩∧F=b :: Fi∧w.rangeAt b o xs∧b<w.heap.size)
def zd4:List DTerm→List Nat→World→List Value→Prop
  | [],F,_,xs=>F=[]∧xs=[]
  | y :: ys,F,w,xs=>∃ F1 F2 c1 c2,F=F1++F2∧xs=c1++c2∧zl2 y F1 w c1∧zd4 ys F2 w c2
end
theorem zqx {t:DTerm} {F:List Nat} {w:World} {cs:List Value} (h:zl2 t F w cs):cs.length=4:=by
 cases t;rw [zl2] at h;obtain ⟨a,cap,Fi,xs,rfl,_⟩:=h;rfl
theorem zqy {t:DTerm} {F:List Nat} {w:World} {cs:List Value} (h:zl2 t F w cs):∀ v∈cs,v.oneCell'=true:=by
 cases t;rw [zl2] at h;obtain ⟨a,cap,Fi,xs,rfl,_⟩:=h
 intro v hv
 simp only [List.mem_cons,List.not_mem_nil,or_false] at hv
 rcases hv with rfl | rfl | rfl | rfl<;>rfl
mutual
theorem zkU:∀ (t:DTerm) {F:List Nat} {w w':World} {cs:List Value},zl2 t F w cs→(∀ b∈F,w'.heap[b]?=w.heap[b]?)→zl2 t F w' cs
  | .mk k n s ks,F,w,w',cs,h,hk=>by
    rw [zl2] at h ⊢
    obtain ⟨a,cap,Fi,xs,hcs,i1,i2,i3,h1,h2,hc,h4⟩:=h
    rcases h4 with ⟨rfl,rfl⟩ | ⟨b,o,ha,hF,hr,hb⟩
    · exact ⟨a,cap,Fi,xs,hcs,i1,i2,i3,h1,h2,by rw [zd4] at hc ⊢;exact hc,.inl ⟨rfl,rfl⟩⟩
    subst hF
    have hbb:=hk b (by simp)
    refine ⟨a,cap,Fi,xs,hcs,i1,i2,i3,h1,h2,zh2 ks hc fun c hc=>hk c (by simp [hc]),.inr ⟨b,o,ha,rfl,zaY hr hbb,?_⟩⟩
    rcases Nat.lt_or_ge b (Array.size (World.heap w')) with h' | h'
    · exact h'
    rw [Array.getElem?_eq_none h'] at hbb
    simp [Array.getElem?_eq_getElem hb] at hbb
theorem zh2:∀ (l:List DTerm) {F:List Nat} {w w':World} {cs:List Value},zd4 l F w cs→(∀ b∈F,w'.heap[b]?=w.heap[b]?)→zd4 l F w' cs
  | [],F,w,w',cs,h,_=>by rw [zd4] at h ⊢;exact h
  | y :: ys,F,w,w',cs,h,hk=>by
    rw [zd4] at h ⊢
    obtain ⟨F1,F2,c1,c2,rfl,rfl,h1,h2⟩:=h
    exact ⟨F1,F2,c1,c2,rfl,rfl,zkU y h1 fun b hb=>hk b (by simp [hb]),zh2 ys h2 fun b hb=>hk b (by simp [hb])⟩
end
mutual
theorem zoR:∀ (t:DTerm) {F:List Nat} {w:World} {cs:List Value},zl2 t F w cs→∀ b∈F,b<w.heap.size
  | .mk k n s ks,F,w,cs,h,c,hm=>by
    rw [zl2] at h
    obtain ⟨a,cap,Fi,xs,hcs,i1,i2,i3,h1,h2,hc,h4⟩:=h
    rcases h4 with ⟨rfl,rfl⟩ | ⟨b,o,ha,hF,hr,hb⟩
    · cases hm
    subst hF
    rcases List.mem_cons.1 hm with rfl | hm
    · exact hb
    exact zkV ks hc c hm
theorem zkV:∀ (l:List DTerm) {F:List Nat} {w:World} {cs:List Value},zd4 l F w cs→∀ b∈F,b<w.heap.size
  | [],F,w,cs,h,c,hm=>by rw [zd4] at h;rw [h.1] at hm;cases hm
  | y :: ys,F,w,cs,h,c,hm=>by
    rw [zd4] at h
    obtain ⟨F1,F2,c1,c2,rfl,rfl,h1,h2⟩:=h
    rcases List.mem_append.1 hm with hm | hm
    · exact zoR y h1 c hm
    exact zkV ys h2 c hm
end
instance:Rep DTerm where
 size:=4
 agg:=true
 rep F w cs x:=zl2 x F w cs
 pos:=by decide
 sz h:=by cases h
 len h:=zqx h
 one h:=zqy h
 keep h hk:=zkU _ h hk
 lt h:=zoR _ h
theorem zgb {w:World}:∀ {l:List DTerm} {F:List Nat} {xs:List Value},zd4 l F w xs↔Cells F w xs l
 | [],F,xs=>by rw [zd4];exact Iff.rfl
 | y :: ys,F,xs=>by
   rw [zd4]
   constructor
   · rintro ⟨F1,F2,c1,c2,h1,h2,h3,h4⟩;exact ⟨F1,F2,c1,c2,h1,h2,h3,zgb.1 h4⟩
   rintro ⟨F1,F2,c1,c2,h1,h2,h3,h4⟩;exact ⟨F1,F2,c1,c2,h1,h2,h3,zgb.2 h4⟩
theorem zfE {w:World} {F:List Nat} {cs:List Value} {t:DTerm}:rep F w cs t↔rep F w cs t.tup:=by
 obtain ⟨k,n,s,ks⟩:=t
 show zl2 _ F w cs↔_
 rw [zl2]
 constructor
 · rintro ⟨a,cap,Fi,xs,rfl,i1,i2,i3,h1,h2,hc,h4⟩
   refine ⟨[],F,[.int .i64 k],_,rfl,rfl,⟨rfl,rfl,i1⟩,[],F,[.int .i64 n],_,rfl,rfl,⟨rfl,rfl,i2⟩,[],F,[.string s],_,rfl,rfl,⟨rfl,rfl,i3⟩,a,cap,Fi,xs,rfl,h1,h2,zgb.1 hc,h4⟩
 rintro ⟨_,_,_,_,rfl,rfl,⟨rfl,rfl,i1⟩,_,_,_,_,rfl,rfl,⟨rfl,rfl,i2⟩,_,_,_,_,rfl,rfl,⟨rfl,rfl,i3⟩,a,cap,Fi,xs,rfl,h1,h2,hc,h4⟩
 exact ⟨a,cap,Fi,xs,rfl,i1,i2,i3,h1,h2,zgb.2 hc,h4⟩
theorem zm0 {w:World} {b o:Nat} {t:DTerm}:At w b o t↔At w b o t.tup:=
 ⟨fun ⟨F,cs,h,k⟩=>⟨F,cs,zfE.1 h,k⟩,fun ⟨F,cs,h,k⟩=>⟨F,cs,zfE.2 h,k⟩⟩
theorem zoS {w:World} {G:List Nat} {b o:Nat} {t:DTerm}:OAt G w b o t↔OAt G w b o t.tup:=
 ⟨fun ⟨cs,h,k⟩=>⟨cs,zfE.1 h,k⟩,fun ⟨cs,h,k⟩=>⟨cs,zfE.2 h,k⟩⟩
section
variable {w:World} {b o:Nat}
theorem zbu {x:DTerm} (h:At w b o x):At w b (o+0) x.kind:=zbT (α:=Int) (β:=Int×ByteArray×List DTerm) (p:=x.tup) (zm0.1 h)
theorem zbE {x:DTerm} (h:At w b o x):At w b (o+1) x.num:=zbT (α:=Int) (β:=ByteArray×List DTerm) (p:=(x.num,x.name,x.kids)) (zaP (α:=Int) (β:=Int×ByteArray×List DTerm) (p:=x.tup) (zm0.1 h))
theorem zbj {x:DTerm} (h:At w b o x):At w b (o+2) x.name:=zbT (α:=ByteArray) (β:=List DTerm) (p:=(x.name,x.kids)) (zaP (α:=Int) (β:=ByteArray×List DTerm) (p:=(x.num,x.name,x.kids)) (zaP (α:=Int) (β:=Int×ByteArray×List DTerm) (p:=x.tup) (zm0.1 h)))
theorem zaJ {x:DTerm} (h:At w b o x):At w b (o+3) x.kids:=zaP (α:=ByteArray) (β:=List DTerm) (p:=(x.name,x.kids)) (zaP (α:=Int) (β:=ByteArray×List DTerm) (p:=(x.num,x.name,x.kids)) (zaP (α:=Int) (β:=Int×ByteArray×List DTerm) (p:=x.tup) (zm0.1 h)))
theorem zoT {x:DTerm} {F0:List Nat} {c0:List Value} (h0:rep F0 w c0 x.kind) {F1:List Nat} {c1:List Value} (h1:rep F1 w c1 x.num) {F2:List Nat} {c2:List Value} (h2:rep F2 w c2 x.name) {F3:List Nat} {c3:List Value} (h3:rep F3 w c3 x.kids) :
   rep (F0++(F1++(F2++F3))) w (c0++(c1++(c2++c3))) x:=zfE.2 (zaC h0 (zaC h1 (zaC h2 h3)))
end
theorem Lens.term {w:World} {γ:Type} {H:List Nat→World→γ→Prop} {F:List Nat} {b o:Nat} {G:List Nat} {t:DTerm} {upd:DTerm→γ} (h:Lens H F w b o G t upd) :
   Lens H F w b o G t.tup (fun p=>upd (.mk p.1 p.2.1 p.2.2.1 p.2.2.2)):=
 ⟨zoS.1 h.here,h.sub,fun w' G' y' hc hO hs=>h.back w' G' _ hc (zoS.2 hO) hs⟩
instance:RepZ DTerm:=⟨.mk 0 0 ByteArray.empty [],RepZ.zc (Int×Int×ByteArray×List DTerm),fun w=>zfE.2 (RepZ.zr (α:=Int×Int×ByteArray×List DTerm) w)⟩
section
variable {γ:Type} {H:List Nat→World→γ→Prop} {F:List Nat} {w:World} {b o:Nat} {G:List Nat} {x:DTerm} {upd:DTerm→γ}
end
structure DIns where
 op:Int
 arg:Int
 term:DTerm
 to:Int
theorem DIns.ext_iff {x y:DIns}:x=y↔(x.op=y.op∧x.arg=y.arg∧x.term=y.term∧x.to=y.to):=⟨fun h=>by rw [h];exact ⟨rfl,rfl,rfl,rfl⟩,fun h=>by obtain ⟨h0,h1,h2,h3⟩:=h;cases x;cases y;simp only at h0 h1 h2 h3;simp only [h0,h1,h2,h3]⟩
instance:DecidableEq DIns:=fun x y=>decidable_of_iff (x.op=y.op∧x.arg=y.arg∧x.term=y.term∧x.to=y.to) DIns.ext_iff.symm
instance:Rep DIns:=Rep.via fun x=>(x.op,x.arg,x.term,x.to)
theorem zaG {w:World} {b o:Nat} {x:DIns} (h:At w b o x):At w b (o+0) x.op:=zbT (α:=Int) (β:=Int×DTerm×Int) (p:=(x.op,x.arg,x.term,x.to)) h
theorem za4 {w:World} {b o:Nat} {x:DIns} (h:At w b o x):At w b (o+1) x.arg:=zbT (α:=Int) (β:=DTerm×Int) (p:=(x.arg,x.term,x.to)) (zaP (α:=Int) (β:=Int×DTerm×Int) (p:=(x.op,x.arg,x.term,x.to)) h)
theorem zbG {w:World} {b o:Nat} {x:DIns} (h:At w b o x):At w b (o+2) x.term:=zbT (α:=DTerm) (β:=Int) (p:=(x.term,x.to)) (zaP (α:=Int) (β:=DTerm×Int) (p:=(x.arg,x.term,x.to)) (zaP (α:=Int) (β:=Int×DTerm×Int) (p:=(x.op,x.arg,x.term,x.to)) h))
theorem zcH {w:World} {b o:Nat} {x:DIns} (h:At w b o x):At w b (o+6) x.to:=zaP (α:=DTerm) (β:=Int) (p:=(x.term,x.to)) (zaP (α:=Int) (β:=DTerm×Int) (p:=(x.arg,x.term,x.to)) (zaP (α:=Int) (β:=Int×DTerm×Int) (p:=(x.op,x.arg,x.term,x.to)) h))
instance:RepZ DIns:=⟨⟨(RepZ.zv:Int),(RepZ.zv:Int),(RepZ.zv:DTerm),(RepZ.zv:Int)⟩,RepZ.zc (Int×Int×DTerm×Int),fun w=>RepZ.zr (α:=Int×Int×DTerm×Int) w⟩
theorem zl3 {γ:Type} {H:List Nat→World→γ→Prop} {F:List Nat} {w:World} {b o:Nat} {G:List Nat} {x:DIns} {upd:DIns→γ} (h:Lens H F w b o G x upd) :
   ∃ G1,Lens H F w b (o+6) G1 x.to (fun y=>upd ⟨x.op,x.arg,x.term,y⟩):=by
 have h':Lens H F w b o G (x.op,x.arg,x.term,x.to) (fun p:Int×Int×DTerm×Int=>upd ⟨p.1,p.2.1,p.2.2.1,p.2.2.2⟩):=⟨h.here,h.sub,fun w' G' y' hc hO hs=>h.back w' G' _ hc hO hs⟩
 obtain ⟨G0,h'⟩:=h'.snd
 obtain ⟨G1,h'⟩:=h'.snd
 obtain ⟨G2,h'⟩:=h'.snd
 exact ⟨_,h'⟩
structure DCode where
 globals:List ByteArray
 locks:List ByteArray
 procs:List ByteArray
 entry:List Int
 ins:List DIns
theorem DCode.ext_iff {x y:DCode}:x=y↔(x.globals=y.globals∧x.locks=y.locks∧x.procs=y.procs∧x.entry=y.entry∧x.ins=y.ins):=⟨fun h=>by rw [h];exact ⟨rfl,rfl,rfl,rfl,rfl⟩,fun h=>by obtain ⟨h0,h1,h2,h3,h4⟩:=h;cases x;cases y;simp only at h0 h1 h2 h3 h4;simp only [h0,h1,h2,h3,h4]⟩
instance:DecidableEq DCode:=fun x y=>decidable_of_iff (x.globals=y.globals∧x.locks=y.locks∧x.procs=y.procs∧x.entry=y.entry∧x.ins=y.ins) DCode.ext_iff.symm
instance:Rep DCode:=Rep.via fun x=>(x.globals,x.locks,x.procs,x.entry,x.ins)
theorem zaW {w:World} {b o:Nat} {x:DCode} (h:At w b o x):At w b (o+0) x.globals:=zbT (α:=List ByteArray) (β:=(List ByteArray)×(List ByteArray)×(List Int)×(List DIns)) (p:=(x.globals,x.locks,x.procs,x.entry,x.ins)) h
theorem zbO {w:World} {b o:Nat} {x:DCode} (h:At w b o x):At w b (o+1) x.locks:=zbT (α:=List ByteArray) (β:=(List ByteArray)×(List Int)×(List DIns)) (p:=(x.locks,x.procs,x.entry,x.ins)) (zaP (α:=List ByteArray) (β:=(List ByteArray)×(List ByteArray)×(List Int)×(List DIns)) (p:=(x.globals,x.locks,x.procs,x.entry,x.ins)) h)
theorem zbv {w:World} {b o:Nat} {x:DCode} (h:At w b o x):At w b (o+2) x.procs:=zbT (α:=List ByteArray) (β:=(List Int)×(List DIns)) (p:=(x.procs,x.entry,x.ins)) (zaP (α:=List ByteArray) (β:=(List ByteArray)×(List Int)×(List DIns)) (p:=(x.locks,x.procs,x.entry,x.ins)) (zaP (α:=List ByteArray) (β:=(List ByteArray)×(List ByteArray)×(List Int)×(List DIns)) (p:=(x.globals,x.locks,x.procs,x.entry,x.ins)) h))
theorem zax {w:World} {b o:Nat} {x:DCode} (h:At w b o x):At w b (o+3) x.entry:=zbT (α:=List Int) (β:=(List DIns)) (p:=(x.entry,x.ins)) (zaP (α:=List ByteArray) (β:=(List Int)×(List DIns)) (p:=(x.procs,x.entry,x.ins)) (zaP (α:=List ByteArray) (β:=(List ByteArray)×(List Int)×(List DIns)) (p:=(x.locks,x.procs,x.entry,x.ins)) (zaP (α:=List ByteArray) (β:=(List ByteArray)×(List ByteArray)×(List Int)×(List DIns)) (p:=(x.globals,x.locks,x.procs,x.entry,x.ins)) h)))
theorem zaq {w:World} {b o:Nat} {x:DCode} (h:At w b o x):At w b (o+4) x.ins:=zaP (α:=List Int) (β:=(List DIns)) (p:=(x.entry,x.ins)) (zaP (α:=List ByteArray) (β:=(List Int)×(List DIns)) (p:=(x.procs,x.entry,x.ins)) (zaP (α:=List ByteArray) (β:=(List ByteArray)×(List Int)×(List DIns)) (p:=(x.locks,x.procs,x.entry,x.ins)) (zaP (α:=List ByteArray) (β:=(List ByteArray)×(List ByteArray)×(List Int)×(List DIns)) (p:=(x.globals,x.locks,x.procs,x.entry,x.ins)) h)))
instance:RepZ DCode:=⟨⟨(RepZ.zv:List ByteArray),(RepZ.zv:List ByteArray),(RepZ.zv:List ByteArray),(RepZ.zv:List Int),(RepZ.zv:List DIns)⟩,RepZ.zc ((List ByteArray)×(List ByteArray)×(List ByteArray)×(List Int)×(List DIns)),fun w=>RepZ.zr (α:=(List ByteArray)×(List ByteArray)×(List ByteArray)×(List Int)×(List DIns)) w⟩
structure DTouch where
 at_:Int
 global:Int
 write:Bool
 held:Int
theorem DTouch.ext_iff {x y:DTouch}:x=y↔(x.at_=y.at_∧x.global=y.global∧x.write=y.write∧x.held=y.held):=⟨fun h=>by rw [h];exact ⟨rfl,rfl,rfl,rfl⟩,fun h=>by obtain ⟨h0,h1,h2,h3⟩:=h;cases x;cases y;simp only at h0 h1 h2 h3;simp only [h0,h1,h2,h3]⟩
instance:DecidableEq DTouch:=fun x y=>decidable_of_iff (x.at_=y.at_∧x.global=y.global∧x.write=y.write∧x.held=y.held) DTouch.ext_iff.symm
instance:Rep DTouch:=Rep.via fun x=>(x.at_,x.global,x.write,x.held)
theorem zet {w:World} {b o:Nat} {x:DTouch} (h:At w b o x):At w b (o+0) x.at_:=zbT (α:=Int) (β:=Int×Bool×Int) (p:=(x.at_,x.global,x.write,x.held)) h
theorem zcX {w:World} {b o:Nat} {x:DTouch} (h:At w b o x):At w b (o+1) x.global:=zbT (α:=Int) (β:=Bool×Int) (p:=(x.global,x.write,x.held)) (zaP (α:=Int) (β:=Int×Bool×Int) (p:=(x.at_,x.global,x.write,x.held)) h)
theorem zeu {w:World} {b o:Nat} {x:DTouch} (h:At w b o x):At w b (o+2) x.write:=zbT (α:=Bool) (β:=Int) (p:=(x.write,x.held)) (zaP (α:=Int) (β:=Bool×Int) (p:=(x.global,x.write,x.held)) (zaP (α:=Int) (β:=Int×Bool×Int) (p:=(x.at_,x.global,x.write,x.held)) h))
theorem zev {w:World} {b o:Nat} {x:DTouch} (h:At w b o x):At w b (o+3) x.held:=zaP (α:=Bool) (β:=Int) (p:=(x.write,x.held)) (zaP (α:=Int) (β:=Bool×Int) (p:=(x.global,x.write,x.held)) (zaP (α:=Int) (β:=Int×Bool×Int) (p:=(x.at_,x.global,x.write,x.held)) h))
instance:RepZ DTouch:=⟨⟨(RepZ.zv:Int),(RepZ.zv:Int),(RepZ.zv:Bool),(RepZ.zv:Int)⟩,RepZ.zc (Int×Int×Bool×Int),fun w=>RepZ.zr (α:=Int×Int×Bool×Int) w⟩
theorem zoU {w:World} {x:DTouch} (h_at_:I64 x.at_) (h_global:I64 x.global)  (h_held:I64 x.held):Mine [] w (.agg #[.int .i64 x.at_,.int .i64 x.global,.bool x.write,.int .i64 x.held]) x:=⟨⟨[.int .i64 x.at_,.int .i64 x.global,.bool x.write,.int .i64 x.held],⟨[],[],[.int .i64 x.at_],[.int .i64 x.global,.bool x.write,.int .i64 x.held],rfl,rfl,⟨rfl,rfl,h_at_⟩,⟨[],[],[.int .i64 x.global],[.bool x.write,.int .i64 x.held],rfl,rfl,⟨rfl,rfl,h_global⟩,⟨[],[],[.bool x.write],[.int .i64 x.held],rfl,rfl,⟨rfl,rfl⟩,⟨rfl,rfl,h_held⟩⟩⟩⟩,rfl⟩,List.nodup_nil,Wr.nil w⟩
instance:Flat DTouch:=⟨fun h=>Flat.flat (α:=Int×Int×Bool×Int) h⟩
end Go.Sh
namespace Go.Sh
open Rep (rep)
inductive DStmt where
 | mk (kind:Int) (name:ByteArray) (term:DTerm) (body els:List DStmt)
namespace DStmt
def kind:DStmt→Int | .mk k _ _ _ _=>k
def name:DStmt→ByteArray | .mk _ s _ _ _=>s
def term:DStmt→DTerm | .mk _ _ t _ _=>t
def body:DStmt→List DStmt | .mk _ _ _ b _=>b
def els:DStmt→List DStmt | .mk _ _ _ _ e=>e
def tup (t:DStmt):Int×ByteArray×DTerm×List DStmt×List DStmt:=(t.kind,t.name,t.term,t.body,t.els)
end DStmt
theorem DStmt.eta (t:DStmt):DStmt.mk t.kind t.name t.term t.body t.els=t:=by cases t;rfl
theorem DStmt.body_lt {t k:DStmt} (h:k∈t.body):SizeOf.sizeOf k<SizeOf.sizeOf t:=by
 cases t with
 | mk a b c l m=>
   have:k∈l:=h
   have:=List.sizeOf_lt_of_mem this
   simp only [DStmt.mk.sizeOf_spec];omega
theorem DStmt.els_lt {t k:DStmt} (h:k∈t.els):SizeOf.sizeOf k<SizeOf.sizeOf t:=by
 cases t with
 | mk a b c l m=>
   have:k∈m:=h
   have:=List.sizeOf_lt_of_mem this
   simp only [DStmt.mk.sizeOf_spec];omega
theorem DStmt.ind {p:DStmt→Prop} (h:∀ t,(∀ k∈t.body,p k)→(∀ k∈t.els,p k)→p t) (t:DStmt):p t:=
  h t (fun k hk=>DStmt.ind h k) (fun k hk=>DStmt.ind h k)
termination_by SizeOf.sizeOf t
decreasing_by
  · exact DStmt.body_lt hk
  exact DStmt.els_lt hk
def slc (n:Nat) (nl:Prop) (w:World) (F:List Nat) (c:Value) (C:List Nat→List Value→Prop):Prop:=
 ∃ a cap Fi xs,c=.slice a n cap∧n≤cap∧cap≤maxLen∧C Fi xs∧((nl∧F=[])∨∃ b o,a=some ⟨b,o,none⟩∧F=b :: Fi∧w.rangeAt b o xs∧b<w.heap.size)
theorem zoV {n:Nat} {nl:Prop} {w:World} {F:List Nat} {c:Value} {C:List Nat→List Value→Prop} (h:slc n nl w F c C):c.oneCell'=true:=by
 obtain ⟨a,cap,Fi,xs,rfl,_⟩:=h;rfl
theorem znX {w w':World} {b:Nat} (hb:b<w.heap.size) (h:w'.heap[b]?=w.heap[b]?):b<w'.heap.size:=by
 rcases Nat.lt_or_ge b (Array.size (World.heap w')) with h' | h'
 · exact h'
 rw [Array.getElem?_eq_none h'] at h
 simp [Array.getElem?_eq_getElem hb] at h
theorem zm1 {n:Nat} {nl:Prop} {w w':World} {F:List Nat} {c:Value} {C C':List Nat→List Value→Prop} (h:slc n nl w F c C) (hk:∀ b∈F,w'.heap[b]?=w.heap[b]?)
   (hC:∀ Fi xs,C Fi xs→(∀ b∈Fi,w'.heap[b]?=w.heap[b]?)→C' Fi xs) (hN:nl→∀ Fi xs,C Fi xs→Fi=[]):slc n nl w' F c C':=by
 obtain ⟨a,cap,Fi,xs,hc,h1,h2,h3,h4⟩:=h
 rcases h4 with ⟨hn,rfl⟩ | ⟨b,o,ha,hF,hr,hb⟩
 · exact ⟨a,cap,Fi,xs,hc,h1,h2,hC _ _ h3 (fun b hb=>by rw [hN hn _ _ h3] at hb;cases hb),.inl ⟨hn,rfl⟩⟩
 subst hF
 have hbb:=hk b (by simp)
 exact ⟨a,cap,Fi,xs,hc,h1,h2,hC _ _ h3 fun c hc=>hk c (by simp [hc]),.inr ⟨b,o,ha,rfl,zaY hr hbb,znX hb hbb⟩⟩
theorem zro {n:Nat} {nl:Prop} {w:World} {F:List Nat} {c:Value} {C:List Nat→List Value→Prop} (h:slc n nl w F c C) (hC:∀ Fi xs,C Fi xs→∀ b∈Fi,b<w.heap.size):∀ b∈F,b<w.heap.size:=by
 obtain ⟨a,cap,Fi,xs,hc,h1,h2,h3,h4⟩:=h
 intro c hm
 rcases h4 with ⟨hn,rfl⟩ | ⟨b,o,ha,hF,hr,hb⟩
 · cases hm
 subst hF
 rcases List.mem_cons.1 hm with rfl | hm
 · exact hb
 exact hC _ _ h3 c hm
mutual
def znY:DStmt→List Nat→World→List Value→Prop
  | .mk k s t bs es,F,w,cs=>∃ Ft ct Fb cb Fe ce,F=Ft++(Fb++Fe)∧cs=.int .i64 k :: .string s :: (ct++[cb,ce])∧I64 k∧s.size≤maxLen∧rep Ft w ct t ∧
    slc bs.length (bs=[]) w Fb cb (fun Fi xs=>zdk bs Fi w xs)∧slc es.length (es=[]) w Fe ce (fun Fi xs=>zdk es Fi w xs)
def zdk:List DStmt→List Nat→World→List Value→Prop
  | [],F,_,xs=>F=[]∧xs=[]
  | y :: ys,F,w,xs=>∃ F1 F2 c1 c2,F=F1++F2∧xs=c1++c2∧znY y F1 w c1∧zdk ys F2 w c2
end
theorem zi6 {l:List DStmt} (h:l=[]) {w:World} (Fi:List Nat) (xs:List Value) (hc:zdk l Fi w xs):Fi=[]:=by
 subst h;rw [zdk] at hc;exact hc.1
theorem zqz {t:DStmt} {F:List Nat} {w:World} {cs:List Value} (h:znY t F w cs):cs.length=8:=by
 cases t;rw [znY] at h;obtain ⟨Ft,ct,Fb,cb,Fe,ce,_,rfl,_,_,ht,_⟩:=h
 have:=Rep.len ht
 simp only [List.length_cons,List.length_append,List.length_nil,this];rfl
theorem zqA {t:DStmt} {F:List Nat} {w:World} {cs:List Value} (h:znY t F w cs):∀ v∈cs,v.oneCell'=true:=by
 cases t;rw [znY] at h;obtain ⟨Ft,ct,Fb,cb,Fe,ce,_,rfl,_,_,ht,hb,he⟩:=h
 intro v hv
 simp only [List.mem_cons,List.mem_append,List.not_mem_nil,or_false] at hv
 rcases hv with rfl | rfl | hv | rfl | rfl
 · rfl
 · rfl
 · exact Rep.one ht v hv
 · exact zoV hb
 exact zoV he
mutual
theorem zkW:∀ (t:DStmt) {F:List Nat} {w w':World} {cs:List Value},znY t F w cs→(∀ b∈F,w'.heap[b]?=w.heap[b]?)→znY t F w' cs
  | .mk k s t bs es,F,w,w',cs,h,hk=>by
    rw [znY] at h ⊢
    obtain ⟨Ft,ct,Fb,cb,Fe,ce,hF,hcs,i1,i2,ht,hb,he⟩:=h
    subst hF
    exact ⟨Ft,ct,Fb,cb,Fe,ce,rfl,hcs,i1,i2,Rep.keep ht fun b hb=>hk b (by simp [hb]),
      zm1 hb (fun b hb=>hk b (by simp [hb])) (fun Fi xs hc hx=>zfF bs hc hx) fun h=>zi6 h,
      zm1 he (fun b hb=>hk b (by simp [hb])) (fun Fi xs hc hx=>zfF es hc hx) fun h=>zi6 h⟩
theorem zfF:∀ (l:List DStmt) {F:List Nat} {w w':World} {cs:List Value},zdk l F w cs→(∀ b∈F,w'.heap[b]?=w.heap[b]?)→zdk l F w' cs
  | [],F,w,w',cs,h,_=>by rw [zdk] at h ⊢;exact h
  | y :: ys,F,w,w',cs,h,hk=>by
    rw [zdk] at h ⊢
    obtain ⟨F1,F2,c1,c2,rfl,rfl,h1,h2⟩:=h
    exact ⟨F1,F2,c1,c2,rfl,rfl,zkW y h1 fun b hb=>hk b (by simp [hb]),zfF ys h2 fun b hb=>hk b (by simp [hb])⟩
end
mutual
theorem zoW:∀ (t:DStmt) {F:List Nat} {w:World} {cs:List Value},znY t F w cs→∀ b∈F,b<w.heap.size
  | .mk k s t bs es,F,w,cs,h,c,hm=>by
    rw [znY] at h
    obtain ⟨Ft,ct,Fb,cb,Fe,ce,hF,hcs,i1,i2,ht,hb,he⟩:=h
    subst hF
    rcases List.mem_append.1 hm with hm | hm
    · exact Rep.lt ht c hm
    rcases List.mem_append.1 hm with hm | hm
    · exact zro hb (fun Fi xs hc=>zh3 bs hc) c hm
    exact zro he (fun Fi xs hc=>zh3 es hc) c hm
theorem zh3:∀ (l:List DStmt) {F:List Nat} {w:World} {cs:List Value},zdk l F w cs→∀ b∈F,b<w.heap.size
  | [],F,w,cs,h,c,hm=>by rw [zdk] at h;rw [h.1] at hm;cases hm
  | y :: ys,F,w,cs,h,c,hm=>by
    rw [zdk] at h
    obtain ⟨F1,F2,c1,c2,rfl,rfl,h1,h2⟩:=h
    rcases List.mem_append.1 hm with hm | hm
    · exact zoW y h1 c hm
    exact zh3 ys h2 c hm
end
instance:Rep DStmt where
 size:=8
 agg:=true
 rep F w cs x:=znY x F w cs
 pos:=by decide
 sz h:=by cases h
 len h:=zqz h
 one h:=zqA h
 keep h hk:=zkW _ h hk
 lt h:=zoW _ h
theorem zgc {w:World}:∀ {l:List DStmt} {F:List Nat} {xs:List Value},zdk l F w xs↔Cells F w xs l
 | [],F,xs=>by rw [zdk];exact Iff.rfl
 | y :: ys,F,xs=>by
   rw [zdk]
   constructor
   · rintro ⟨F1,F2,c1,c2,h1,h2,h3,h4⟩;exact ⟨F1,F2,c1,c2,h1,h2,h3,zgc.1 h4⟩
   rintro ⟨F1,F2,c1,c2,h1,h2,h3,h4⟩;exact ⟨F1,F2,c1,c2,h1,h2,h3,zgc.2 h4⟩
theorem zjH {w:World} {F:List Nat} {c:Value} {l:List DStmt}:slc l.length (l=[]) w F c (fun Fi xs=>zdk l Fi w xs)↔rep F w [c] l:=by
 constructor
 · rintro ⟨a,cap,Fi,xs,rfl,h1,h2,h3,h4⟩
   exact ⟨a,cap,Fi,xs,rfl,h1,h2,zgc.1 h3,h4⟩
 rintro ⟨a,cap,Fi,xs,hc,h1,h2,h3,h4⟩
 exact ⟨a,cap,Fi,xs,by simpa using hc,h1,h2,zgc.2 h3,h4⟩
theorem zdc {w:World} {F:List Nat} {cs:List Value} {l:List DStmt} (h:rep F w cs l):∃ c,cs=[c]:=by
 obtain ⟨a,cap,Fi,xs,rfl,_⟩:=h;exact ⟨_,rfl⟩
theorem zdM {w:World} {F:List Nat} {cs:List Value} {t:DStmt}:rep F w cs t↔rep F w cs t.tup:=by
 obtain ⟨k,s,t,bs,es⟩:=t
 show znY _ F w cs↔_
 rw [znY]
 constructor
 · rintro ⟨Ft,ct,Fb,cb,Fe,ce,rfl,rfl,i1,i2,ht,hb,he⟩
   exact ⟨[],_,[.int .i64 k],_,rfl,rfl,⟨rfl,rfl,i1⟩,[],_,[.string s],_,rfl,rfl,⟨rfl,rfl,i2⟩,Ft,Fb++Fe,ct,[cb,ce],rfl,rfl,ht,Fb,Fe,[cb],[ce],rfl,rfl,zjH.1 hb,zjH.1 he⟩
 rintro ⟨_,_,_,_,rfl,rfl,⟨rfl,rfl,i1⟩,_,_,_,_,rfl,rfl,⟨rfl,rfl,i2⟩,Ft,_,ct,_,rfl,rfl,ht,Fb,Fe,c1,c2,rfl,rfl,hb,he⟩
 obtain ⟨cb,rfl⟩:=zdc hb
 obtain ⟨ce,rfl⟩:=zdc he
 exact ⟨Ft,ct,Fb,cb,Fe,ce,rfl,rfl,i1,i2,ht,zjH.2 hb,zjH.2 he⟩
theorem zoX {w:World} {b o:Nat} {t:DStmt}:At w b o t↔At w b o t.tup:=
 ⟨fun ⟨F,cs,h,k⟩=>⟨F,cs,zdM.1 h,k⟩,fun ⟨F,cs,h,k⟩=>⟨F,cs,zdM.2 h,k⟩⟩
theorem zm2 {w:World} {G:List Nat} {b o:Nat} {t:DStmt}:OAt G w b o t↔OAt G w b o t.tup:=
 ⟨fun ⟨cs,h,k⟩=>⟨cs,zdM.1 h,k⟩,fun ⟨cs,h,k⟩=>⟨cs,zdM.2 h,k⟩⟩
section
variable {w:World} {b o:Nat} {x:DStmt}
theorem zb4 (h:At w b o x):At w b (o+0) x.kind:=zbT (α:=Int) (β:=ByteArray×DTerm×List DStmt×List DStmt) (p:=x.tup) (zoX.1 h)
theorem zta (h:At w b o x):At w b (o+1) (x.name,x.term,x.body,x.els):=zaP (α:=Int) (β:=ByteArray×DTerm×List DStmt×List DStmt) (p:=x.tup) (zoX.1 h)
theorem za8 (h:At w b o x):At w b (o+1) x.name:=zbT (α:=ByteArray) (β:=DTerm×List DStmt×List DStmt) (p:=(x.name,x.term,x.body,x.els)) (zta h)
theorem ztb (h:At w b o x):At w b (o+2) (x.term,x.body,x.els):=zaP (α:=ByteArray) (β:=DTerm×List DStmt×List DStmt) (p:=(x.name,x.term,x.body,x.els)) (zta h)
theorem zcz (h:At w b o x):At w b (o+2) x.term:=zbT (α:=DTerm) (β:=List DStmt×List DStmt) (p:=(x.term,x.body,x.els)) (ztb h)
theorem ztc (h:At w b o x):At w b (o+6) (x.body,x.els):=zaP (α:=DTerm) (β:=List DStmt×List DStmt) (p:=(x.term,x.body,x.els)) (ztb h)
theorem zcl (h:At w b o x):At w b (o+6) x.body:=zbT (α:=List DStmt) (β:=List DStmt) (p:=(x.body,x.els)) (ztc h)
theorem zb5 (h:At w b o x):At w b (o+7) x.els:=zaP (α:=List DStmt) (β:=List DStmt) (p:=(x.body,x.els)) (ztc h)
theorem zoY {F0:List Nat} {c0:List Value} (h0:rep F0 w c0 x.kind) {F1:List Nat} {c1:List Value} (h1:rep F1 w c1 x.name) {F2:List Nat} {c2:List Value} (h2:rep F2 w c2 x.term) {F3:List Nat} {c3:List Value} (h3:rep F3 w c3 x.body) {F4:List Nat} {c4:List Value} (h4:rep F4 w c4 x.els) :
   rep (F0++(F1++(F2++(F3++F4)))) w (c0++(c1++(c2++(c3++c4)))) x:=zdM.2 (zaC h0 (zaC h1 (zaC h2 (zaC h3 h4))))
end
theorem Lens.stmt {w:World} {γ:Type} {H:List Nat→World→γ→Prop} {F:List Nat} {b o:Nat} {G:List Nat} {t:DStmt} {upd:DStmt→γ} (h:Lens H F w b o G t upd) :
   Lens H F w b o G t.tup (fun p=>upd (.mk p.1 p.2.1 p.2.2.1 p.2.2.2.1 p.2.2.2.2)):=
 ⟨zm2.1 h.here,h.sub,fun w' G' y' hc hO hs=>h.back w' G' _ hc (zm2.2 hO) hs⟩
instance:RepZ DStmt:=⟨.mk 0 ByteArray.empty RepZ.zv [] [],RepZ.zc (Int×ByteArray×DTerm×List DStmt×List DStmt),fun w=>zdM.2 (RepZ.zr (α:=Int×ByteArray×DTerm×List DStmt×List DStmt) w)⟩
section
variable {γ:Type} {H:List Nat→World→γ→Prop} {F:List Nat} {w:World} {b o:Nat} {G:List Nat} {x:DStmt} {upd:DStmt→γ}
theorem zkX (h:Lens H F w b o G x upd):∃ G1,Lens H F w b (o+1) G1 x.name (fun y=>upd (.mk x.kind y x.term x.body x.els)):=by
 obtain ⟨G1,h1⟩:=h.stmt.snd;obtain ⟨G2,h2⟩:=h1.fst;exact ⟨G2,h2⟩
theorem zkY (h:Lens H F w b o G x upd):∃ G1,Lens H F w b (o+6) G1 x.body (fun y=>upd (.mk x.kind x.name x.term y x.els)):=by
 obtain ⟨G1,h1⟩:=h.stmt.snd;obtain ⟨G2,h2⟩:=h1.snd;obtain ⟨G3,h3⟩:=h2.snd;obtain ⟨G4,h4⟩:=h3.fst;exact ⟨G4,h4⟩
theorem zhp (h:Lens H F w b o G x upd):∃ G1,Lens H F w b (o+7) G1 x.els (fun y=>upd (.mk x.kind x.name x.term x.body y)):=by
 obtain ⟨G1,h1⟩:=h.stmt.snd;obtain ⟨G2,h2⟩:=h1.snd;obtain ⟨G3,h3⟩:=h2.snd;obtain ⟨G4,h4⟩:=h3.snd;exact ⟨G4,h4⟩
end
structure DProc where
 name:ByteArray
 body:List DStmt
theorem DProc.ext_iff {x y:DProc}:x=y↔(x.name=y.name∧x.body=y.body):=⟨fun h=>by rw [h];exact ⟨rfl,rfl⟩,fun h=>by obtain ⟨h0,h1⟩:=h;cases x;cases y;simp only at h0 h1;simp only [h0,h1]⟩
instance:Rep DProc:=Rep.via fun x=>(x.name,x.body)
theorem zfk {w:World} {b o:Nat} {x:DProc} (h:At w b o x):At w b (o+0) x.name:=zbT (α:=ByteArray) (β:=(List DStmt)) (p:=(x.name,x.body)) h
theorem zgM {w:World} {b o:Nat} {x:DProc} (h:At w b o x):At w b (o+1) x.body:=zaP (α:=ByteArray) (β:=(List DStmt)) (p:=(x.name,x.body)) h
instance:RepZ DProc:=⟨⟨(RepZ.zv:ByteArray),(RepZ.zv:List DStmt)⟩,RepZ.zc (ByteArray×(List DStmt)),fun w=>RepZ.zr (α:=ByteArray×(List DStmt)) w⟩
structure DProg where
 globals:List ByteArray
 locks:List ByteArray
 procs:List DProc
theorem DProg.ext_iff {x y:DProg}:x=y↔(x.globals=y.globals∧x.locks=y.locks∧x.procs=y.procs):=⟨fun h=>by rw [h];exact ⟨rfl,rfl,rfl⟩,fun h=>by obtain ⟨h0,h1,h2⟩:=h;cases x;cases y;simp only at h0 h1 h2;simp only [h0,h1,h2]⟩
instance:Rep DProg:=Rep.via fun x=>(x.globals,x.locks,x.procs)
theorem zd5 {w:World} {b o:Nat} {x:DProg} (h:At w b o x):At w b (o+0) x.globals:=zbT (α:=List ByteArray) (β:=(List ByteArray)×(List DProc)) (p:=(x.globals,x.locks,x.procs)) h
theorem zfl {w:World} {b o:Nat} {x:DProg} (h:At w b o x):At w b (o+1) x.locks:=zbT (α:=List ByteArray) (β:=(List DProc)) (p:=(x.locks,x.procs)) (zaP (α:=List ByteArray) (β:=(List ByteArray)×(List DProc)) (p:=(x.globals,x.locks,x.procs)) h)
theorem zbw {w:World} {b o:Nat} {x:DProg} (h:At w b o x):At w b (o+2) x.procs:=zaP (α:=List ByteArray) (β:=(List DProc)) (p:=(x.locks,x.procs)) (zaP (α:=List ByteArray) (β:=(List ByteArray)×(List DProc)) (p:=(x.globals,x.locks,x.procs)) h)
instance:RepZ DProg:=⟨⟨(RepZ.zv:List ByteArray),(RepZ.zv:List ByteArray),(RepZ.zv:List DProc)⟩,RepZ.zc ((List ByteArray)×(List ByteArray)×(List DProc)),fun w=>RepZ.zr (α:=(List ByteArray)×(List ByteArray)×(List DProc)) w⟩
section
variable {w:World} {lo hi:Nat}
theorem zd6 {k n:Int} {s:ByteArray} {v:Value} {l:List DTerm} (hk:I64 k) (hn:I64 n) (hs:s.size≤maxLen) (h:OwnI lo hi w v l):OwnI lo hi w (.agg #[.int .i64 k,.int .i64 n,.string s,v]) (DTerm.mk k n s l):=by
 obtain ⟨F,⟨⟨cs,hr,rfl⟩,hnd,hw⟩,hF⟩:=h
 obtain ⟨a,cap,Fi,xs,rfl,h1,h2,hc,h4⟩:=hr
 exact ⟨F,⟨⟨_,zoT (x:=.mk k n s l) (F0:=[]) (F1:=[]) (F2:=[]) ⟨rfl,rfl,hk⟩ ⟨rfl,rfl,hn⟩ ⟨rfl,rfl,hs⟩ ⟨a,cap,Fi,xs,rfl,h1,h2,hc,h4⟩,rfl⟩,hnd,hw⟩,hF⟩
theorem zfm {v:Value} {t:DTerm} (h:Is w v t):∃ a cap,v=.agg #[.int .i64 t.kind,.int .i64 t.num,.string t.name,.slice a t.kids.length cap]:=by
 obtain ⟨F,cs,hr,rfl⟩:=h
 obtain ⟨k,n,s,ks⟩:=t
 rw [show rep F w cs (DTerm.mk k n s ks)=zl2 (.mk k n s ks) F w cs from rfl,zl2] at hr
 obtain ⟨a,cap,Fi,xs,rfl,_⟩:=hr
 exact ⟨a,cap,rfl⟩
theorem zoZ {k:Int} {s:ByteArray} {t:DTerm} {vb ve:Value} {bs es:List DStmt} {tc:Array Value} {l0 h0 l1 h1 l2 h2:Nat} (hk:I64 k) (hs:s.size≤maxLen) (ht:OwnI l0 h0 w (.agg tc) t) (hb:OwnI l1 h1 w vb bs) (he:OwnI l2 h2 w ve es)
   (d01:h0≤l1∨h1≤l0) (d02:h0≤l2∨h2≤l0) (d12:h1≤l2∨h2≤l1) (b0:lo≤l0∧h0≤hi) (b1:lo≤l1∧h1≤hi) (b2:lo≤l2∧h2≤hi) :
   OwnI lo hi w (.agg ([Value.int .i64 k,Value.string s]++tc.toList++[vb,ve]).toArray) (DStmt.mk k s t bs es):=by
 obtain ⟨F0,⟨⟨c0,r0,e0⟩,n0,w0⟩,B0⟩:=ht
 obtain ⟨F1,⟨⟨c1,r1,e1⟩,n1,w1⟩,B1⟩:=hb
 obtain ⟨F2,⟨⟨c2,r2,e2⟩,n2,w2⟩,B2⟩:=he
 have ht0:tc.toList=c0:=by
   simp only [mkv,Rep.agg,cond_true,Value.agg.injEq] at e0
   rw [e0]
 obtain ⟨cb,rfl⟩:=zdc r1
 obtain ⟨ce,rfl⟩:=zdc r2
 simp only [mkv,Rep.agg,cond_false,List.headD_cons] at e1 e2
 subst e1 e2
 refine ⟨F0++(F1++F2),⟨⟨_,zoY (x:=.mk k s t bs es) (F0:=[]) (F1:=[]) ⟨rfl,rfl,hk⟩ ⟨rfl,rfl,hs⟩ r0 r1 r2,?_⟩,?_,w0.append (w1.append w2)⟩,fun x hx=>?_⟩
 · rw [ht0];simp [mkv,Rep.agg,DStmt.kind,DStmt.name]
 · rw [List.nodup_append,List.nodup_append]
   refine ⟨n0,⟨n1,n2,fun p hp q hq e=>?_⟩,fun p hp q hq e=>?_⟩
   · subst e;have:=B1 p hp;have:=B2 p hq;omega
   subst e
   have:=B0 p hp
   rcases List.mem_append.1 hq with hq | hq
   · have:=B1 p hq;omega
   have:=B2 p hq;omega
 rcases List.mem_append.1 hx with hx | hx
 · have:=B0 x hx;omega
 rcases List.mem_append.1 hx with hx | hx
 · have:=B1 x hx;omega
 have:=B2 x hx;omega
end
end Go.Sh
namespace Go.Sh
open Rep (rep)
def zlO (x:Int):Int:=IntKind.i64.wrap x
def znZ (a b:Int):Int:=zlO ((BitVec.ofInt 64 a &&& BitVec.ofInt 64 b).toNat:Nat)
def ztQ (a b:Int):Int:=zlO ((BitVec.ofInt 64 a ^^^ BitVec.ofInt 64 b).toNat:Nat)
def ztd (a:Int) (n:Nat):Int:=a.fdiv (2^(min n 64))
theorem zrX (x:Int):I64 (zlO x):=by
 have e:zlO x=if x%18446744073709551616≥9223372036854775808 then x%18446744073709551616-18446744073709551616 else x%18446744073709551616:=by
   simp [zlO,IntKind.wrap,IntKind.signed,IntKind.bits]
 unfold I64
 rw [e]
 split<;>omega
theorem zo0 {x:Int} (h:I64 x):zlO x=x:=IntWalk.i64_in _ h
theorem zjI (a:Int) {n:Nat} (hn:n<9223372036854775808):0≤znZ a n∧znZ a n≤n:=by
 have h1:(BitVec.ofInt 64 a &&& BitVec.ofInt 64 (n:Int)).toNat≤n:=by
   rw [BitVec.toNat_and]
   refine Nat.le_trans Nat.and_le_right ?_
   rw [BitVec.ofInt_natCast,BitVec.toNat_ofNat,Nat.mod_eq_of_lt (by omega)]
   exact Nat.le_refl _
 unfold znZ
 rw [zo0 (by unfold I64;omega)]
 omega
section
variable {P:Program} {w:World} {K:Value→Prop} {t:TypeId} {x y:Operand} {a b:Int}
theorem zo1 (k:K (.int .i64 (zlO (a+b)))):RD P (bin .add t x y (.int .i64 a) (.int .i64 b)) w K:=
 zaV (fun w' _=>by simp [bin,eqGuard,binOp,Op.intArith,zlO]) k
theorem zrY (k:K (.int .i64 (zlO (a*b)))):RD P (bin .mul t x y (.int .i64 a) (.int .i64 b)) w K:=
 zaV (fun w' _=>by simp [bin,eqGuard,binOp,Op.intArith,zlO]) k
theorem zl4 (k:K (.int .i64 (znZ a b))):RD P (bin .and t x y (.int .i64 a) (.int .i64 b)) w K:=by
 refine zaV (fun w' _=>?_) k
 show (do eqGuard .and t x y (.int .i64 a) (.int .i64 b);binOp .and t (.int .i64 a) (.int .i64 b):Sem Value).run P w'=_
 simp only [eqGuard,binOp,Op.intBits]
 rfl
theorem zrZ (k:K (.int .i64 (ztQ a b))):RD P (bin .xor t x y (.int .i64 a) (.int .i64 b)) w K:=by
 refine zaV (fun w' _=>?_) k
 show (do eqGuard .xor t x y (.int .i64 a) (.int .i64 b);binOp .xor t (.int .i64 a) (.int .i64 b):Sem Value).run P w'=_
 simp only [eqGuard,binOp,Op.intBits]
 rfl
theorem zo2 {n:Nat} {ku:IntKind} (k:K (.int .i64 (ztd a n))):RD P (bin .shr t x y (.int .i64 a) (.int ku (n:Int))) w K:=by
 refine zaV (fun w' _=>?_) k
 have e0:¬((n:Int)<0):=by omega
 show (do eqGuard .shr t x y (.int .i64 a) (.int ku (n:Int));binOp .shr t (.int .i64 a) (.int ku (n:Int)):Sem Value).run P w'=_
 simp only [eqGuard,binOp,Op.shift,e0,if_false,Int.toNat_natCast]
 rfl
theorem zo3 {src dst:TypeId} {n:Nat} (hs:(P.underlying src).isSome=true) (hd:P.underlying dst=some (.int .i64)) (hn:n<256) (k:K (.int .i64 (n:Int))):RD P (convert src dst (.int .u8 (n:Int))) w K:=by
 refine zaV (fun w' _=>?_) k
 obtain ⟨d,hd'⟩:=Option.isSome_iff_exists.mp hs
 have:IntKind.i64.wrap (n:Int)=n:=IntWalk.i64_in _ (by omega)
 simp [convert,run_underlying hd',run_underlying hd,Conv.intToInt,this]
end
theorem zo4 {a n:Int} (h0:0≤a) (hn:0<n):0≤a.tmod n∧a.tmod n<n:=by
 rw [Int.tmod_eq_emod_of_nonneg h0]
 exact ⟨Int.emod_nonneg _ (by omega),Int.emod_lt_of_pos _ hn⟩
end Go.Sh
namespace Go.Proofs.YtdmailcgaekimaaGreat
open Go Go.Sh Go.Proofs
open Rep (rep)
def extL:List Nat:=[0,1,335,336,337,338,339,340,341,342,343,344,345,346,347,348,349,350]
set_option maxRecDepth 100000 in
theorem zte:((List.range 351).all fun f=>extL.elem f || zeW Tryz.prog f)=true:=by kernel_rfl
theorem ent:∀ f,f<351→extL.elem f=false→zeW Tryz.prog f=true:=fun f hf hx=>by
 have:=List.all_eq_true.1 zte f (List.mem_range.2 hf)
 rw [hx,Bool.false_or] at this
 exact this
theorem mixed:Tryz.prog.follows .mixedOrders=true:=by kernel_rfl
theorem u2:Tryz.prog.underlying 2=some (TypeDesc.int IntKind.i64):=by kernel_rfl
theorem z2:zbB Tryz.prog 2=true:=by kernel_rfl
theorem ty3:tyI Tryz.prog 3=some (1,8,false):=by kernel_rfl
theorem u3:Tryz.prog.underlying 3=some (TypeDesc.int IntKind.i64):=by kernel_rfl
theorem z3:zbB Tryz.prog 3=true:=by kernel_rfl
theorem zc3:(Tryz.prog.info? 3).map (fun i=>(i.zero.map (·.cells.size)))=some (some 1):=by kernel_rfl
theorem ty4:tyI Tryz.prog 4=some (1,1,false):=by kernel_rfl
theorem u4:Tryz.prog.underlying 4=some TypeDesc.bool:=by kernel_rfl
theorem z4:zbB Tryz.prog 4=true:=by kernel_rfl
theorem ty5:tyI Tryz.prog 5=some (1,1,false):=by kernel_rfl
theorem u5:Tryz.prog.underlying 5=some (TypeDesc.int IntKind.u8):=by kernel_rfl
theorem z5:zbB Tryz.prog 5=true:=by kernel_rfl
theorem u6:Tryz.prog.underlying 6=some (TypeDesc.int IntKind.u8):=by kernel_rfl
theorem ty9:tyI Tryz.prog 9=some (1,16,false):=by kernel_rfl
theorem u9:Tryz.prog.underlying 9=some TypeDesc.string:=by kernel_rfl
theorem z9:zbB Tryz.prog 9=true:=by kernel_rfl
theorem zc9:(Tryz.prog.info? 9).map (fun i=>(i.zero.map (·.cells.size)))=some (some 1):=by kernel_rfl
theorem u10:Tryz.prog.underlying 10=some TypeDesc.string:=by kernel_rfl
theorem u11:Tryz.prog.underlying 11=some TypeDesc.string:=by kernel_rfl
theorem u12:Tryz.prog.underlying 12=some (TypeDesc.int IntKind.u64):=by kernel_rfl
theorem u21:Tryz.prog.underlying 21=some (TypeDesc.int IntKind.i32):=by kernel_rfl
theorem zuc:tyI Tryz.prog 22=some (1,24,false):=by kernel_rfl
theorem u22:Tryz.prog.underlying 22=some (TypeDesc.slice 5):=by kernel_rfl
theorem z22:zbB Tryz.prog 22=true:=by kernel_rfl
theorem zcP:tyI Tryz.prog 24=some (1,24,false):=by kernel_rfl
theorem u24:Tryz.prog.underlying 24=some (TypeDesc.slice 9):=by kernel_rfl
theorem zbk:tyI Tryz.prog 25=some (1,24,false):=by kernel_rfl
theorem u25:Tryz.prog.underlying 25=some (TypeDesc.slice 3):=by kernel_rfl
theorem z25:zbB Tryz.prog 25=true:=by kernel_rfl
theorem ztR:(Tryz.prog.info? 25).map (fun i=>(i.zero.map (·.cells.size)))=some (some 1):=by kernel_rfl
theorem zdN:tyI Tryz.prog 26=some (1,24,false):=by kernel_rfl
theorem u26:Tryz.prog.underlying 26=some (TypeDesc.slice 117):=by kernel_rfl
theorem zbq:tyI Tryz.prog 28=some (5,120,true):=by kernel_rfl
theorem zo5:zb9 Tryz.prog 28=some [.slice none 0 0,.slice none 0 0,.slice none 0 0,.slice none 0 0,.slice none 0 0]:=by kernel_rfl
theorem zcQ:zdn Tryz.prog 28 0=some 0:=by kernel_rfl
theorem ze0:zdn Tryz.prog 28 1=some 1:=by kernel_rfl
theorem zdA:zdn Tryz.prog 28 2=some 2:=by kernel_rfl
theorem zbn:zdn Tryz.prog 28 3=some 3:=by kernel_rfl
theorem zba:zdn Tryz.prog 28 4=some 4:=by kernel_rfl
theorem zdJ:tyI Tryz.prog 29=some (1,24,false):=by kernel_rfl
theorem u29:Tryz.prog.underlying 29=some (TypeDesc.slice 25):=by kernel_rfl
theorem zbM:tyI Tryz.prog 31=some (3,72,true):=by kernel_rfl
theorem zgd:zdn Tryz.prog 31 0=some 0:=by kernel_rfl
theorem zcA:zdn Tryz.prog 31 1=some 1:=by kernel_rfl
theorem zaT:zdn Tryz.prog 31 2=some 2:=by kernel_rfl
theorem u40:Tryz.prog.underlying 40=some (TypeDesc.slice 43):=by kernel_rfl
theorem zdd:tyI Tryz.prog 43=some (3,24,true):=by kernel_rfl
theorem z43:zbB Tryz.prog 43=true:=by kernel_rfl
theorem ztf:(Tryz.prog.info? 43).map (fun i=>(i.zero.map (·.cells.size)))=some (some 3):=by kernel_rfl
theorem ztS:zb9 Tryz.prog 43=some [.int .i64 0,.int .i64 0,.int .i64 0]:=by kernel_rfl
theorem zi7:zdn Tryz.prog 43 0=some 0:=by kernel_rfl
theorem zfy:zdn Tryz.prog 43 1=some 1:=by kernel_rfl
theorem zi8:zdn Tryz.prog 43 2=some 2:=by kernel_rfl
theorem zrp:tyI Tryz.prog 45=some (1,24,false):=by kernel_rfl
theorem u45:Tryz.prog.underlying 45=some (TypeDesc.slice 146):=by kernel_rfl
theorem z45:zbB Tryz.prog 45=true:=by kernel_rfl
theorem zkD:tyI Tryz.prog 62=some (1,24,false):=by kernel_rfl
theorem u62:Tryz.prog.underlying 62=some (TypeDesc.slice 69):=by kernel_rfl
theorem zh4:tyI Tryz.prog 64=some (3,72,true):=by kernel_rfl
theorem ztg:zb9 Tryz.prog 64=some [.slice none 0 0,.slice none 0 0,.slice none 0 0]:=by kernel_rfl
theorem zi9:zdn Tryz.prog 64 0=some 0:=by kernel_rfl
theorem zja:zdn Tryz.prog 64 1=some 1:=by kernel_rfl
theorem zcR:zdn Tryz.prog 64 2=some 2:=by kernel_rfl
theorem zfY:tyI Tryz.prog 66=some (1,24,false):=by kernel_rfl
theorem u66:Tryz.prog.underlying 66=some (TypeDesc.slice 81):=by kernel_rfl
theorem z66:zbB Tryz.prog 66=true:=by kernel_rfl
theorem zo6:tyI Tryz.prog 69=some (2,40,true):=by kernel_rfl
theorem z69:zbB Tryz.prog 69=true:=by kernel_rfl
theorem zud:(Tryz.prog.info? 69).map (fun i=>(i.zero.map (·.cells.size)))=some (some 2):=by kernel_rfl
theorem zm3:zdn Tryz.prog 69 0=some 0:=by kernel_rfl
theorem zm4:zdn Tryz.prog 69 1=some 1:=by kernel_rfl
theorem zgI:tyI Tryz.prog 76=some (1,24,false):=by kernel_rfl
theorem u76:Tryz.prog.underlying 76=some (TypeDesc.slice 78):=by kernel_rfl
theorem z76:zbB Tryz.prog 76=true:=by kernel_rfl
theorem z77:zbB Tryz.prog 77=true:=by kernel_rfl
theorem zcs:tyI Tryz.prog 78=some (4,56,true):=by kernel_rfl
theorem z78:zbB Tryz.prog 78=true:=by kernel_rfl
theorem zus:(Tryz.prog.info? 78).map (fun i=>(i.zero.map (·.cells.size)))=some (some 4):=by kernel_rfl
theorem zut:Tryz.prog.underlying 78=some (TypeDesc.struct (Array.mk [Field.mk "Kind" 3 0 false "" "" 0,Field.mk "Num" 3 1 false "" "" 8,Field.mk "Name" 9 2 false "" "" 16,Field.mk "Kids" 76 3 false "" "" 32])):=by kernel_rfl
theorem zsX:zb9 Tryz.prog 78=some [.int .i64 0,.int .i64 0,.string ByteArray.empty,.slice none 0 0]:=by kernel_rfl
theorem zd7:zdn Tryz.prog 78 0=some 0:=by kernel_rfl
theorem zeQ:zdn Tryz.prog 78 1=some 1:=by kernel_rfl
theorem zdO:zdn Tryz.prog 78 2=some 2:=by kernel_rfl
theorem zbL:zdn Tryz.prog 78 3=some 3:=by kernel_rfl
theorem zc6:tyI Tryz.prog 81=some (8,128,true):=by kernel_rfl
theorem z81:zbB Tryz.prog 81=true:=by kernel_rfl
theorem zr0:(Tryz.prog.info? 81).map (fun i=>(i.zero.map (·.cells.size)))=some (some 8):=by kernel_rfl
theorem zsY:zb9 Tryz.prog 81=some [.int .i64 0,.string ByteArray.empty,.int .i64 0,.int .i64 0,.string ByteArray.empty,.slice none 0 0,.slice none 0 0,.slice none 0 0]:=by kernel_rfl
theorem zeR:zdn Tryz.prog 81 0=some 0:=by kernel_rfl
theorem zcS:zdn Tryz.prog 81 1=some 1:=by kernel_rfl
theorem zhq:zdn Tryz.prog 81 2=some 2:=by kernel_rfl
theorem zeS:zdn Tryz.prog 81 3=some 6:=by kernel_rfl
theorem zdP:zdn Tryz.prog 81 4=some 7:=by kernel_rfl
theorem zr1:tyI Tryz.prog 86=some (2,16,true):=by kernel_rfl
theorem zkZ:zdn Tryz.prog 86 0=some 0:=by kernel_rfl
theorem zth:Tryz.prog.underlying 108=some (TypeDesc.int IntKind.u64):=by kernel_rfl
theorem zbS:tyI Tryz.prog 117=some (7,80,true):=by kernel_rfl
theorem zuu:zbB Tryz.prog 117=true:=by kernel_rfl
theorem ztT:(Tryz.prog.info? 117).map (fun i=>(i.zero.map (·.cells.size)))=some (some 7):=by kernel_rfl
theorem zl5:zb9 Tryz.prog 117=some [.int .i64 0,.int .i64 0,.int .i64 0,.int .i64 0,.string ByteArray.empty,.slice none 0 0,.int .i64 0]:=by kernel_rfl
theorem za5:zdn Tryz.prog 117 0=some 0:=by kernel_rfl
theorem zbY:zdn Tryz.prog 117 1=some 1:=by kernel_rfl
theorem zcI:zdn Tryz.prog 117 2=some 2:=by kernel_rfl
theorem zdY:zdn Tryz.prog 117 3=some 6:=by kernel_rfl
theorem zo7:zdn Tryz.prog 123 0=some 0:=by kernel_rfl
theorem zjJ:zdn Tryz.prog 123 1=some 1:=by kernel_rfl
theorem zjK:zdn Tryz.prog 123 2=some 2:=by kernel_rfl
theorem zl6:tyI Tryz.prog 127=some (1,24,false):=by kernel_rfl
theorem zqB:Tryz.prog.underlying 127=some (TypeDesc.slice 198):=by kernel_rfl
theorem zfG:zdn Tryz.prog 129 0=some 0:=by kernel_rfl
theorem zcY:zdn Tryz.prog 129 1=some 1:=by kernel_rfl
theorem zh5:zdn Tryz.prog 129 3=some 3:=by kernel_rfl
theorem zjL:zdn Tryz.prog 129 4=some 5:=by kernel_rfl
theorem zl7:zdn Tryz.prog 137 0=some 0:=by kernel_rfl
theorem zfH:zdn Tryz.prog 137 1=some 3:=by kernel_rfl
theorem zsZ:Tryz.prog.underlying 144=some (TypeDesc.slice 45):=by kernel_rfl
theorem zdK:tyI Tryz.prog 146=some (4,32,true):=by kernel_rfl
theorem ztI:zbB Tryz.prog 146=true:=by kernel_rfl
theorem zqC:(Tryz.prog.info? 146).map (fun i=>(i.zero.map (·.cells.size)))=some (some 4):=by kernel_rfl
theorem zti:zb9 Tryz.prog 146=some [.int .i64 0,.int .i64 0,.bool false,.int .i64 0]:=by kernel_rfl
theorem zjM:zdn Tryz.prog 146 0=some 0:=by kernel_rfl
theorem zgN:zdn Tryz.prog 146 1=some 1:=by kernel_rfl
theorem zjN:zdn Tryz.prog 146 2=some 2:=by kernel_rfl
theorem zjO:zdn Tryz.prog 146 3=some 3:=by kernel_rfl
theorem zk0:tyI Tryz.prog 198=some (3,32,true):=by kernel_rfl
theorem zuv:zbB Tryz.prog 198=true:=by kernel_rfl
theorem ztU:(Tryz.prog.info? 198).map (fun i=>(i.zero.map (·.cells.size)))=some (some 3):=by kernel_rfl
theorem zo8:zdn Tryz.prog 198 0=some 0:=by kernel_rfl
theorem zjP:zdn Tryz.prog 198 1=some 1:=by kernel_rfl
theorem zr2 {P:Program} {w:World} {K:Value→Prop} {t:TypeId} {x y:Operand} {a b:Bool} (ht:P.underlying t=some .bool) (k:K (.bool (decide (a≠b)))):RD P (bin .neq t x y (.bool a) (.bool b)) w K:=
 zaV (fun w' _=>by
   have:=run_neq_bool (P:=P) w' t a b ht
   cases a<;>cases b<;>simp_all [bin,eqGuard]) k
def sm {α:Type} (f:α→Nat) (l:List α):Nat:=(l.map f).sum
theorem ztj {α:Type} (f:α→Nat) {l:List α} {x:α} (h:x∈l):f x≤sm f l:=by
 unfold sm
 induction l with
 | nil=>cases h
 | cons y l ih=>
   rw [List.map_cons,List.sum_cons]
   rcases List.mem_cons.1 h with rfl | h
   · omega
   have:=ih h;omega
abbrev VW:=Value→World→Prop
noncomputable abbrev tp:Program:=Tryz.prog
abbrev T0:Operand:=.tmp 0
abbrev U0:Operand:=.const undef
abbrev ln (t y:Nat) (x:Value):Sem Value:=Builtin.len_ #[t] y [x].toArray
theorem zuy {u:Nat→Value} {a:Nat} {x:Value} (h:[a].map u=[x]):u a=x:=by simpa using h
theorem zfZ {u:Nat→Value} {a b:Nat} {x y:Value} (h:[a,b].map u=[x,y]):u a=x∧u b=y:=by simpa using h
theorem ztV {u:Nat→Value} {a b c:Nat} {x y z:Value} (h:[a,b,c].map u=[x,y,z]):u a=x∧u b=y∧u c=z:=by simpa using h
abbrev iV (x:Int):Value:=.int .i64 x
abbrev cL (f:Nat) (a:List Value) (w:World) (R:Value→World→Prop):Prop:=CALL tp f a w R
abbrev rD (m:Sem Value) (w:World) (K:Value→Prop):Prop:=RD tp m w K
abbrev oP (m:Sem Value) (w:World) (K:Value→World→Prop):Prop:=OP tp m w K
abbrev rL (t:Nat) (x:Value) (w:World) (K:Value→Prop):Prop:=RD tp (Instr.loadAt t x) w K
abbrev rF (t:Nat) (x:Value) (i:Nat) (w:World) (K:Value→Prop):Prop:=RD tp (Instr.fieldAt t x i) w K
abbrev rX (t:Nat) (x i:Value) (w:World) (K:Value→Prop):Prop:=RD tp (Instr.indexAt t x i) w K
abbrev rN (t y:Nat) (x:Value) (w:World) (K:Value→Prop):Prop:=RD tp (ln t y x) w K
abbrev rC (a b:Value) (w:World) (K:Value→Prop):Prop:=RD tp (bin .lss 3 T0 T0 a b) w K
abbrev rA (a b:Value) (w:World) (K:Value→Prop):Prop:=RD tp (bin .add 3 T0 U0 a b) w K
abbrev rB (o:BinOp) (t:Nat) (x y:Operand) (a b:Value) (w:World) (K:Value→Prop):Prop:=RD tp (bin o t x y a b) w K
abbrev oS (t:Nat) (x v:Value) (w:World) (K:World→Prop):Prop:=OPU tp (Instr.storeAt t x v) w K
abbrev oU (m:Sem Unit) (w:World) (K:World→Prop):Prop:=OPU tp m w K
abbrev rE (x:Value) (i:Nat) (w:World) (K:Value→Prop):Prop:=RD tp (Instr.extract x i) w K
theorem co {g:Cfg} {f:FuncId} {fn:Func} {args:List Value} {w:World} {R:VW} {F:Prop} (hf:tp.funcs[f]?=some fn) (hl:args.length.ble fn.ntmps=true) (hok:okF g 351 fn=true) (e:vcF tp g fn args w R=F) (h:F) (hg:g.ext=extL:=by rfl):CALL tp f args w R:=
 zrT (hg▸ent) mixed hf (Nat.le_of_ble_eq_true hl) hok (e▸h)
def F65 (a0 a1 a2:Value) (w:World) (R:VW):Prop:=
 rB .geq 3 T0 T0 a0 a1 w fun x9=>
 BR x9
 (rB .leq 3 T0 T0 a0 a2 w fun x13=>
 R x13 w)
 (R (Value.bool false) w)
def cfg65:Cfg:=⟨extL,[],[],[],[],[],[]⟩
theorem F65_call {a0 a1 a2:Value} {w:World} {R:VW} (h:F65 a0 a1 a2 w R):cL 65 [a0,a1,a2] w R:=co (g:=cfg65) Tryz.func65 (by kernel_rfl) (by kernel_rfl) (by kernel_rfl) h
theorem zcw {w:World} {a:Int} {b:Int} {c:Int}    :
   CALL Tryz.prog 65 [.int .i64 a,.int .i64 b,.int .i64 c] w fun r w'=>Ext w w'∧(r=.bool (decide (b≤a∧a≤c))):=by
 refine F65_call ?_
 unfold F65
 refine zb1 ?_
 refine br (fun c1=>?_) (fun c1=>?_)
 · refine zcO ?_
   refine ⟨Ext.refl w,?_⟩
   simp [c1]
 refine ⟨Ext.refl w,?_⟩
 simp [c1]
def zce (s:DState) (t:Int):Int:=if h:0≤t∧t.toNat<s.stacks.length then (s.stacks[t.toNat]'h.2).getLastD (-1) else -1
theorem zh6 {l:List Int} (h:l≠[]) (hi:((l.length:Int)-1).toNat<l.length):l[((l.length:Int)-1).toNat]'hi=l.getLastD (-1):=by
 have e:((l.length:Int)-1).toNat=l.length-1:=by omega
 simp only [e]
 rw [List.getLastD_eq_getLast?,List.getLast?_eq_getElem?,List.getElem?_eq_getElem (by omega)]
 rfl
def F123 (a0 a1:Value) (w:World) (R:VW):Prop:=
 oP (Instr.box 31 a0) w fun x2 w=>
 rF 31 x2 2 w fun x6=>
 rL 29 x6 w fun x7=>
 rN 29 3 x7 w fun x8=>
 rB .sub 3 T0 U0 x8 (iV 1) w fun x9=>
 cL 65 [a1,(iV 0),x9] w fun x10 w=>
 rD (Op.unary .not x10) w fun x11=>
 BR x11
 (R (iV (-1)) w)
 (rF 31 x2 2 w fun x13=>
 rL 29 x13 w fun x14=>
 rX 29 x14 a1 w fun x16=>
 rL 25 x16 w fun x17=>
 rN 25 3 x17 w fun x18=>
 rB .eql 3 T0 U0 x18 (iV 0) w fun x19=>
 BR x19
 (R (iV (-1)) w)
 ((fun w=>rF 31 x2 2 w fun x21=>
 rL 29 x21 w fun x22=>
 rX 29 x22 a1 w fun x24=>
 rL 25 x24 w fun x25=>
 rF 31 x2 2 w fun x26=>
 rL 29 x26 w fun x27=>
 rX 29 x27 a1 w fun x29=>
 rL 25 x29 w fun x30=>
 rN 25 3 x30 w fun x31=>
 rB .sub 3 T0 U0 x31 (iV 1) w fun x32=>
 rX 25 x25 x32 w fun x33=>
 rL 3 x33 w fun x34=>
 R x34 w) (World.drew1 w)))
def cfg123:Cfg:=⟨extL,[],[],[(3,[0,1,2,3,4,5,6,7,8,9,10,11,12,13,14],0)],[],[],[]⟩
theorem F123_call {a0 a1:Value} {w:World} {R:VW} (h:F123 a0 a1 w R):cL 123 [a0,a1] w R:=co (g:=cfg123) Tryz.func123 (by kernel_rfl) (by kernel_rfl) (by kernel_rfl) h
theorem zew {w:World} {v0:Value} {W0:World} {s:DState} {t:Int}  (h0:Is W0 v0 s) (e0:Ext W0 w)  :
   CALL Tryz.prog 123 [v0,.int .i64 t] w fun r w'=>Ext w w'∧(r=.int .i64 (zce s t)):=by
 refine F123_call ?_
 unfold F123
 refine zal zbM rfl h0 e0 fun w1_ hx1_ hA2 hV2=>?_
 refine zaa zaT ?_
 refine zab zdJ (zau hA2) (Ext.refl w1_) fun v7 h7=>?_
 have hln8:=zaf h7
 refine zae u29 h7 ?_
 refine za2 (by unfold I64;omega) ?_
 refine (zcw ).mono ?_
 rintro _ w2_ ⟨hx2_,rfl⟩
 refine zas ?_
 refine br (fun c1=>?_) (fun c1=>?_)
 · refine ⟨(hx1_.trans hx2_),?_⟩
   unfold zce
   rw [dif_neg (by omega)]
 refine zaa zaT ?_
 refine zab zdJ (zau hA2) hx2_ fun v14 h14=>?_
 refine zat u29 zbk h14 (by omega) (by omega) fun b16 o16 h16=>?_
 refine zab zbk h16 hx2_ fun v17 h17=>?_
 have hln18:=zaf h17
 refine zae u25 h17 ?_
 refine zag ?_
 refine br (fun c2=>?_) (fun c2=>?_)
 · refine ⟨(hx1_.trans hx2_),?_⟩
   unfold zce
   rw [dif_pos (by omega)]
   have:s.stacks[t.toNat]'(by omega)=[]:=List.eq_nil_of_length_eq_zero (by omega)
   rw [this];rfl
 have hx3_:=zaj w2_
 refine zaa zaT ?_
 refine zab zdJ (zau hA2) (hx2_.trans hx3_) fun v22 h22=>?_
 refine zat u29 zbk h22 (by omega) (by omega) fun b24 o24 h24=>?_
 refine zab zbk h24 (hx2_.trans hx3_) fun v25 h25=>?_
 refine zaa zaT ?_
 refine zab zdJ (zau hA2) (hx2_.trans hx3_) fun v27 h27=>?_
 refine zat u29 zbk h27 (by omega) (by omega) fun b29 o29 h29=>?_
 refine zab zbk h29 (hx2_.trans hx3_) fun v30 h30=>?_
 have hln31:=zaf h30
 refine zae u25 h30 ?_
 refine za2 (by unfold I64;omega) ?_
 refine zat u25 ty3 h25 (by omega) (by omega) fun b33 o33 h33=>?_
 refine zac ty3 h33 (hx2_.trans hx3_) fun hI34=>?_
 refine ⟨(hx1_.trans (hx2_.trans hx3_)),?_⟩
 unfold zce
 rw [dif_pos (by omega)]
 rw [zh6 (fun e=>by rw [e] at c2;simp at c2)]
def F89 (a0 a1:Value) (w:World) (R:VW):Prop:=
 oP (Instr.box 31 a0) w fun x2 w=>
 rB .lss 3 T0 U0 a1 (iV 0) w fun x6=>
 BR x6
 (R (iV (-1)) w)
 (rF 31 x2 2 w fun x9=>
 rL 29 x9 w fun x10=>
 rN 29 3 x10 w fun x11=>
 rB .geq 3 T0 T0 a1 x11 w fun x12=>
 BR x12
 (R (iV (-1)) w)
 (rF 31 x2 2 w fun x15=>
 rL 29 x15 w fun x16=>
 rX 29 x16 a1 w fun x18=>
 rL 25 x18 w fun x19=>
 rN 25 3 x19 w fun x20=>
 rB .eql 3 T0 U0 x20 (iV 0) w fun x21=>
 BR x21
 (R (iV (-1)) w)
 ((fun w=>rF 31 x2 2 w fun x23=>
 rL 29 x23 w fun x24=>
 rX 29 x24 a1 w fun x26=>
 rL 25 x26 w fun x27=>
 rF 31 x2 2 w fun x28=>
 rL 29 x28 w fun x29=>
 rX 29 x29 a1 w fun x31=>
 rL 25 x31 w fun x32=>
 rN 25 3 x32 w fun x33=>
 rB .sub 3 T0 U0 x33 (iV 1) w fun x34=>
 rX 25 x27 x34 w fun x35=>
 rL 3 x35 w fun x36=>
 R x36 w) (World.drew1 w))))
def cfg89:Cfg:=⟨extL,[],[],[(3,[0,1,2,3,4,5,6,7,8,9,10,11,12,13,14],0)],[],[],[]⟩
theorem F89_call {a0 a1:Value} {w:World} {R:VW} (h:F89 a0 a1 w R):cL 89 [a0,a1] w R:=co (g:=cfg89) Tryz.func89 (by kernel_rfl) (by kernel_rfl) (by kernel_rfl) h
theorem zfI {w:World} {v0:Value} {W0:World} {s:DState} {t:Int}  (h0:Is W0 v0 s) (e0:Ext W0 w)  :
   CALL Tryz.prog 89 [v0,.int .i64 t] w fun r w'=>Ext w w'∧(r=.int .i64 (zce s t)):=by
 refine F89_call ?_
 unfold F89
 refine zal zbM rfl h0 e0 fun w1_ hx1_ hA2 hV2=>?_
 refine zai ?_
 refine br (fun c1=>?_) (fun c1=>?_)
 · refine ⟨hx1_,?_⟩
   unfold zce
   rw [dif_neg (by omega)]
 refine zaa zaT ?_
 refine zab zdJ (zau hA2) (Ext.refl w1_) fun v10 h10=>?_
 have hln11:=zaf h10
 refine zae u29 h10 ?_
 refine zb1 ?_
 refine br (fun c2=>?_) (fun c2=>?_)
 · refine ⟨hx1_,?_⟩
   unfold zce
   rw [dif_neg (by omega)]
 refine zaa zaT ?_
 refine zab zdJ (zau hA2) (Ext.refl w1_) fun v16 h16=>?_
 refine zat u29 zbk h16 (by omega) (by omega) fun b18 o18 h18=>?_
 refine zab zbk h18 (Ext.refl w1_) fun v19 h19=>?_
 have hln20:=zaf h19
 refine zae u25 h19 ?_
 refine zag ?_
 refine br (fun c3=>?_) (fun c3=>?_)
 · refine ⟨hx1_,?_⟩
   unfold zce
   rw [dif_pos (by omega)]
   have:s.stacks[t.toNat]'(by omega)=[]:=List.eq_nil_of_length_eq_zero (by omega)
   rw [this];rfl
 have hx2_:=zaj w1_
 refine zaa zaT ?_
 refine zab zdJ (zau hA2) hx2_ fun v24 h24=>?_
 refine zat u29 zbk h24 (by omega) (by omega) fun b26 o26 h26=>?_
 refine zab zbk h26 hx2_ fun v27 h27=>?_
 refine zaa zaT ?_
 refine zab zdJ (zau hA2) hx2_ fun v29 h29=>?_
 refine zat u29 zbk h29 (by omega) (by omega) fun b31 o31 h31=>?_
 refine zab zbk h31 hx2_ fun v32 h32=>?_
 have hln33:=zaf h32
 refine zae u25 h32 ?_
 refine za2 (by unfold I64;omega) ?_
 refine zat u25 ty3 h27 (by omega) (by omega) fun b35 o35 h35=>?_
 refine zac ty3 h35 hx2_ fun hI36=>?_
 refine ⟨(hx1_.trans hx2_),?_⟩
 unfold zce
 rw [dif_pos (by omega)]
 rw [zh6 (fun e=>by rw [e] at c3;simp at c3)]
theorem zfJ:zb9 Tryz.prog 31=some [.slice none 0 0,.slice none 0 0,.slice none 0 0]:=by kernel_rfl
def zjb (b:UInt8):Bool:=decide ((97:Int)≤(b.toNat:Int)∧(b.toNat:Int)≤122)
def zm5 (b:UInt8):Bool:=decide ((48:Int)≤(b.toNat:Int)∧(b.toNat:Int)≤57)
def zfK (s:ByteArray):Bool:=decide (s.size≤12)&&(bts s).head?.any zjb&&(bts s).all (fun b=>zjb b || zm5 b)
def kw:List ByteArray:=[.mk #[97,110,100],.mk #[99,97,108,108],.mk #[101,108,115,101],.mk #[103,108,111,98,97,108,115],.mk #[105,102],.mk #[108,111,99,107],.mk #[108,111,99,107,115],
 .mk #[110,111,116],.mk #[112,114,111,99],.mk #[115,107,105,112],.mk #[115,112,97,119,110],.mk #[117,110,108,111,99,107],.mk #[119,104,105,108,101]]
def zaZ (s:ByteArray):Bool:=zfK s&&!decide (s∈kw)
def F290 (a0:Value) (w:World) (R:VW):Prop:=
 rB .geq 5 T0 U0 a0 (Value.int .u8 97) w fun x4=>
 BR x4
 (rB .leq 5 T0 U0 a0 (Value.int .u8 122) w fun x7=>
 R x7 w)
 (R (Value.bool false) w)
def cfg290:Cfg:=⟨extL,[],[],[],[],[],[]⟩
theorem F290_call {a0:Value} {w:World} {R:VW} (h:F290 a0 w R):cL 290 [a0] w R:=co (g:=cfg290) Tryz.func290 (by kernel_rfl) (by kernel_rfl) (by kernel_rfl) h
theorem zjc {w:World} {n:Nat}    :
   CALL Tryz.prog 290 [.int .u8 (n:Int)] w fun r w'=>Ext w w'∧(r=.bool (decide ((97:Int)≤(n:Int)∧(n:Int)≤122))):=by
 refine F290_call ?_
 unfold F290
 refine zb1 ?_
 refine br (fun c1=>?_) (fun c1=>?_)
 · refine zcO ?_
   refine ⟨Ext.refl w,?_⟩
   simp [c1]
 refine ⟨Ext.refl w,?_⟩
 simp [c1]
def F291 (a0:Value) (w:World) (R:VW):Prop:=
 rB .geq 5 T0 U0 a0 (Value.int .u8 48) w fun x4=>
 BR x4
 (rB .leq 5 T0 U0 a0 (Value.int .u8 57) w fun x7=>
 R x7 w)
 (R (Value.bool false) w)
def cfg291:Cfg:=⟨extL,[],[],[],[],[],[]⟩
theorem F291_call {a0:Value} {w:World} {R:VW} (h:F291 a0 w R):cL 291 [a0] w R:=co (g:=cfg291) Tryz.func291 (by kernel_rfl) (by kernel_rfl) (by kernel_rfl) h
theorem zl8 {w:World} {n:Nat}    :
   CALL Tryz.prog 291 [.int .u8 (n:Int)] w fun r w'=>Ext w w'∧(r=.bool (decide ((48:Int)≤(n:Int)∧(n:Int)≤57))):=by
 refine F291_call ?_
 unfold F291
 refine zb1 ?_
 refine br (fun c1=>?_) (fun c1=>?_)
 · refine zcO ?_
   refine ⟨Ext.refl w,?_⟩
   simp [c1]
 refine ⟨Ext.refl w,?_⟩
 simp [c1]
def F247 (a0:Value) (w:World) (R:VW):Prop:=
 rB .geq 5 T0 U0 a0 (Value.int .u8 97) w fun x4=>
 BR x4
 (rB .leq 5 T0 U0 a0 (Value.int .u8 122) w fun x7=>
 R x7 w)
 (R (Value.bool false) w)
def cfg247:Cfg:=⟨extL,[],[],[],[],[],[]⟩
theorem F247_call {a0:Value} {w:World} {R:VW} (h:F247 a0 w R):cL 247 [a0] w R:=co (g:=cfg247) Tryz.func247 (by kernel_rfl) (by kernel_rfl) (by kernel_rfl) h
theorem l02Letter_ok {w:World} {n:Nat}    :
   CALL Tryz.prog 247 [.int .u8 (n:Int)] w fun r w'=>Ext w w'∧(r=.bool (decide ((97:Int)≤(n:Int)∧(n:Int)≤122))):=by
 refine F247_call ?_
 unfold F247
 refine zb1 ?_
 refine br (fun c1=>?_) (fun c1=>?_)
 · refine zcO ?_
   refine ⟨Ext.refl w,?_⟩
   simp [c1]
 refine ⟨Ext.refl w,?_⟩
 simp [c1]
def F250 (a0:Value) (w:World) (R:VW):Prop:=
 rB .geq 5 T0 U0 a0 (Value.int .u8 48) w fun x4=>
 BR x4
 (rB .leq 5 T0 U0 a0 (Value.int .u8 57) w fun x7=>
 R x7 w)
 (R (Value.bool false) w)
def cfg250:Cfg:=⟨extL,[],[],[],[],[],[]⟩
theorem F250_call {a0:Value} {w:World} {R:VW} (h:F250 a0 w R):cL 250 [a0] w R:=co (g:=cfg250) Tryz.func250 (by kernel_rfl) (by kernel_rfl) (by kernel_rfl) h
theorem l02Figure_ok {w:World} {n:Nat}    :
   CALL Tryz.prog 250 [.int .u8 (n:Int)] w fun r w'=>Ext w w'∧(r=.bool (decide ((48:Int)≤(n:Int)∧(n:Int)≤57))):=by
 refine F250_call ?_
 unfold F250
 refine zb1 ?_
 refine br (fun c1=>?_) (fun c1=>?_)
 · refine zcO ?_
   refine ⟨Ext.refl w,?_⟩
   simp [c1]
 refine ⟨Ext.refl w,?_⟩
 simp [c1]
theorem zm6 {s:ByteArray} (h:0<s.size):(bts s).head?=some ((bts s)[0]'(by rw [zaX];exact h)):=by
 rw [List.head?_eq_getElem?,List.getElem?_eq_getElem (by rw [zaX];exact h)]
theorem zjd {s:ByteArray} (h:s.size=0):zfK s=false:=by
 have:bts s=[]:=List.eq_nil_of_length_eq_zero (by rw [zaX];exact h)
 simp [zfK,this]
theorem zk1 {s:ByteArray} (h:12<s.size):zfK s=false:=by
 simp [zfK,Nat.not_le.2 h]
theorem zk2 {s:ByteArray} (h:0<s.size) (c:¬((97:Int)≤(((bts s)[0]'(by rw [zaX];exact h)).toNat:Int)∧(((bts s)[0]'(by rw [zaX];exact h)).toNat:Int)≤122)):zfK s=false:=by
 have:zjb ((bts s)[0]'(by rw [zaX];exact h))=false:=by simp only [zjb,c,decide_false]
 simp [zfK,zm6 h,this]
theorem zo9 {s:ByteArray} {k:Nat} (h:k<s.size) (c1:¬((97:Int)≤(((bts s)[k]'(by rw [zaX];exact h)).toNat:Int)∧(((bts s)[k]'(by rw [zaX];exact h)).toNat:Int)≤122))
   (c2:¬((48:Int)≤(((bts s)[k]'(by rw [zaX];exact h)).toNat:Int)∧(((bts s)[k]'(by rw [zaX];exact h)).toNat:Int)≤57)):zfK s=false:=by
 have h1:zjb ((bts s)[k]'(by rw [zaX];exact h))=false:=by simp only [zjb,c1,decide_false]
 have h2:zm5 ((bts s)[k]'(by rw [zaX];exact h))=false:=by simp only [zm5,c2,decide_false]
 have:(bts s).all (fun b=>zjb b || zm5 b)=false:=by
   rw [List.all_eq_false]
   exact ⟨_,List.getElem_mem (by rw [zaX];exact h),by simp [h1,h2]⟩
 simp [zfK,this]
theorem zge {s:ByteArray} {k:Nat} (h:k<s.size) (hi:∀ b∈(bts s).take k,(zjb b || zm5 b)=true) (c:zjb ((bts s)[k]'(by rw [zaX];exact h))=true∨zm5 ((bts s)[k]'(by rw [zaX];exact h))=true) :
   ∀ b∈(bts s).take (k+1),(zjb b || zm5 b)=true:=by
 rw [List.take_succ_eq_append_getElem (by rw [zaX];exact h)]
 intro b hb
 rcases List.mem_append.1 hb with hb | hb
 · exact hi b hb
 simp only [List.mem_cons,List.not_mem_nil,or_false] at hb
 subst hb
 simpa using c
theorem zm7 {s:ByteArray} {k:Nat} (h0:0<s.size) (h1:s.size≤12) (c:(97:Int)≤(((bts s)[0]'(by rw [zaX];exact h0)).toNat:Int)∧(((bts s)[0]'(by rw [zaX];exact h0)).toNat:Int)≤122) (hk:s.size≤k)
   (hi:∀ b∈(bts s).take k,(zjb b || zm5 b)=true):zfK s=true:=by
 rw [List.take_of_length_le (by rw [zaX];exact hk)] at hi
 have e1:zjb ((bts s)[0]'(by rw [zaX];exact h0))=true:=by simp only [zjb,c,and_self,decide_true]
 have e2:(bts s).all (fun b=>zjb b || zm5 b)=true:=List.all_eq_true.2 hi
 simp [zfK,zm6 h0,e1,e2,h1]
def F249 (a0:Value) (w:World) (R:VW):Prop:=
 rN 9 3 a0 w fun x5=>
 rB .eql 3 T0 U0 x5 (iV 0) w fun x6=>
 BR x6
 (R (Value.bool false) w)
 (rN 9 3 a0 w fun x9=>
 rB .gtr 3 T0 U0 x9 (iV 12) w fun x10=>
 BR x10
 (R (Value.bool false) w)
 (rD (Instr.index 9 a0 (iV 0)) w fun x14=>
 cL 247 [x14] w fun x15 w=>
 rD (Op.unary .not x15) w fun x16=>
 BR x16
 (R (Value.bool false) w)
 (LOOPI [3] [(iV 0)] w fun u4 w next4=>
 rN 9 3 a0 w fun x20=>
 rC (u4 3) x20 w fun x21=>
 BR x21
 (rD (Instr.index 9 a0 (u4 3)) w fun x26=>
 cL 247 [x26] w fun x27 w=>
 rD (Op.unary .not x27) w fun x28=>
 BR x28
 (rD (Instr.index 9 a0 (u4 3)) w fun x32=>
 cL 250 [x32] w fun x33 w=>
 rD (Op.unary .not x33) w fun x34=>
 BR x34
 (R (Value.bool false) w)
 (rA (u4 3) (iV 1) w fun x23=>
 next4 [x23] w))
 (rA (u4 3) (iV 1) w fun x23=>
 next4 [x23] w))
 (R (Value.bool true) w))))
def cfg249:Cfg:=⟨extL,[],[(4,68719214604,[3])],[],[],[],[]⟩
theorem F249_call {a0:Value} {w:World} {R:VW} (h:F249 a0 w R):cL 249 [a0] w R:=co (g:=cfg249) Tryz.func249 (by kernel_rfl) (by kernel_rfl) (by kernel_rfl) h
theorem l02Word_ok {w:World} {s:ByteArray}    :
   CALL Tryz.prog 249 [.string s] w fun r w'=>Ext w w'∧(r=.bool (zfK s)):=by
 refine F249_call ?_
 unfold F249
 refine zdx u9 ?_
 refine zag ?_
 refine br (fun c1=>?_) (fun c1=>?_)
 · refine ⟨Ext.refl w,?_⟩
   rw [zjd (by omega)]
 refine zdx u9 ?_
 refine zb0 ?_
 refine br (fun c2=>?_) (fun c2=>?_)
 · refine ⟨Ext.refl w,?_⟩
   rw [zk1 (by omega)]
 refine zcF (i:=0) u9 (by omega) ?_
 refine (l02Letter_ok ).mono ?_
 rintro _ w1_ ⟨hx1_,rfl⟩
 refine zas ?_
 refine br (fun c3=>?_) (fun c3=>?_)
 · refine ⟨hx1_,?_⟩
   rw [zk2 (by omega) c3]
 refine zaE (s.size) (fun k us w'=>us=[.int .i64 (k:Int)]∧Ext w1_ w'∧(∀ b∈(bts s).take k,(zjb b || zm5 b)=true)) (0) (by omega) ⟨by simp,Ext.refl w1_,by simp⟩ ?_
 rintro k m4 uu4 w2_ hk4 ⟨hu,hx2_,hinv⟩
 simp only [List.map_cons,List.map_nil,List.cons.injEq,and_true] at hu
 try rw [hu]
 try clear hu
 refine zdx u9 ?_
 refine zai ?_
 refine br (fun c4=>?_) (fun c4=>?_)
 · refine zcF u9 (by omega) ?_
   refine (l02Letter_ok ).mono ?_
   rintro _ w3_ ⟨hx3_,rfl⟩
   refine zas ?_
   refine br (fun c5=>?_) (fun c5=>?_)
   · refine zcF u9 (by omega) ?_
     refine (l02Figure_ok ).mono ?_
     rintro _ w4_ ⟨hx4_,rfl⟩
     refine zas ?_
     refine br (fun c6=>?_) (fun c6=>?_)
     · refine ⟨(hx1_.trans (hx2_.trans (hx3_.trans hx4_))),?_⟩
       rw [zo9 (by omega) c5 c6]
     refine zah (by omega) ?_
     refine ⟨m4-1,by omega,k+1,by omega,by simp,(hx2_.trans (hx3_.trans hx4_)),?_⟩
     exact zge (by omega) hinv (.inr (by simp only [zm5,Decidable.not_not.1 c6,and_self,decide_true]))
   refine zah (by omega) ?_
   refine ⟨m4-1,by omega,k+1,by omega,by simp,(hx2_.trans hx3_),?_⟩
   exact zge (by omega) hinv (.inl (by simp only [zjb,Decidable.not_not.1 c5,and_self,decide_true]))
 refine ⟨(hx1_.trans hx2_),?_⟩
 rw [zm7 (by omega) (by omega) (Decidable.not_not.1 c3) (by omega) hinv]
def F253 (a0:Value) (w:World) (R:VW):Prop:=
 rB .eql 9 T0 U0 a0 (Value.string (ByteArray.mk #[97,110,100])) w fun x5=>
 BR x5
 (R (Value.bool false) w)
 (rB .eql 9 T0 U0 a0 (Value.string (ByteArray.mk #[99,97,108,108])) w fun x6=>
 BR x6
 (R (Value.bool false) w)
 (rB .eql 9 T0 U0 a0 (Value.string (ByteArray.mk #[101,108,115,101])) w fun x7=>
 BR x7
 (R (Value.bool false) w)
 (rB .eql 9 T0 U0 a0 (Value.string (ByteArray.mk #[103,108,111,98,97,108,115])) w fun x8=>
 BR x8
 (R (Value.bool false) w)
 (rB .eql 9 T0 U0 a0 (Value.string (ByteArray.mk #[105,102])) w fun x9=>
 BR x9
 (R (Value.bool false) w)
 (rB .eql 9 T0 U0 a0 (Value.string (ByteArray.mk #[108,111,99,107])) w fun x10=>
 BR x10
 (R (Value.bool false) w)
 (rB .eql 9 T0 U0 a0 (Value.string (ByteArray.mk #[108,111,99,107,115])) w fun x11=>
 BR x11
 (R (Value.bool false) w)
 (rB .eql 9 T0 U0 a0 (Value.string (ByteArray.mk #[110,111,116])) w fun x12=>
 BR x12
 (R (Value.bool false) w)
 (rB .eql 9 T0 U0 a0 (Value.string (ByteArray.mk #[112,114,111,99])) w fun x13=>
 BR x13
 (R (Value.bool false) w)
 (rB .eql 9 T0 U0 a0 (Value.string (ByteArray.mk #[115,107,105,112])) w fun x14=>
 BR x14
 (R (Value.bool false) w)
 (rB .eql 9 T0 U0 a0 (Value.string (ByteArray.mk #[115,112,97,119,110])) w fun x15=>
 BR x15
 (R (Value.bool false) w)
 (rB .eql 9 T0 U0 a0 (Value.string (ByteArray.mk #[117,110,108,111,99,107])) w fun x16=>
 BR x16
 (R (Value.bool false) w)
 (rB .eql 9 T0 U0 a0 (Value.string (ByteArray.mk #[119,104,105,108,101])) w fun x17=>
 BR x17
 (R (Value.bool false) w)
 (cL 249 [a0] w fun x19 w=>
 R x19 w)))))))))))))
def cfg253:Cfg:=⟨extL,[],[],[],[],[],[]⟩
theorem F253_call {a0:Value} {w:World} {R:VW} (h:F253 a0 w R):cL 253 [a0] w R:=co (g:=cfg253) Tryz.func253 (by kernel_rfl) (by kernel_rfl) (by kernel_rfl) h
theorem specIsName_ok {w:World} {s:ByteArray}    :
   CALL Tryz.prog 253 [.string s] w fun r w'=>Ext w w'∧(r=.bool (zaZ s)):=by
 refine F253_call ?_
 unfold F253
 refine zay ?_
 refine br (fun c1=>?_) (fun c1=>?_)
 · refine ⟨Ext.refl w,?_⟩
   have hm:s∈kw:=by simp [kw, *]
   simp [zaZ,hm]
 refine zay ?_
 refine br (fun c2=>?_) (fun c2=>?_)
 · refine ⟨Ext.refl w,?_⟩
   have hm:s∈kw:=by simp [kw, *]
   simp [zaZ,hm]
 refine zay ?_
 refine br (fun c3=>?_) (fun c3=>?_)
 · refine ⟨Ext.refl w,?_⟩
   have hm:s∈kw:=by simp [kw, *]
   simp [zaZ,hm]
 refine zay ?_
 refine br (fun c4=>?_) (fun c4=>?_)
 · refine ⟨Ext.refl w,?_⟩
   have hm:s∈kw:=by simp [kw, *]
   simp [zaZ,hm]
 refine zay ?_
 refine br (fun c5=>?_) (fun c5=>?_)
 · refine ⟨Ext.refl w,?_⟩
   have hm:s∈kw:=by simp [kw, *]
   simp [zaZ,hm]
 refine zay ?_
 refine br (fun c6=>?_) (fun c6=>?_)
 · refine ⟨Ext.refl w,?_⟩
   have hm:s∈kw:=by simp [kw, *]
   simp [zaZ,hm]
 refine zay ?_
 refine br (fun c7=>?_) (fun c7=>?_)
 · refine ⟨Ext.refl w,?_⟩
   have hm:s∈kw:=by simp [kw, *]
   simp [zaZ,hm]
 refine zay ?_
 refine br (fun c8=>?_) (fun c8=>?_)
 · refine ⟨Ext.refl w,?_⟩
   have hm:s∈kw:=by simp [kw, *]
   simp [zaZ,hm]
 refine zay ?_
 refine br (fun c9=>?_) (fun c9=>?_)
 · refine ⟨Ext.refl w,?_⟩
   have hm:s∈kw:=by simp [kw, *]
   simp [zaZ,hm]
 refine zay ?_
 refine br (fun c10=>?_) (fun c10=>?_)
 · refine ⟨Ext.refl w,?_⟩
   have hm:s∈kw:=by simp [kw, *]
   simp [zaZ,hm]
 refine zay ?_
 refine br (fun c11=>?_) (fun c11=>?_)
 · refine ⟨Ext.refl w,?_⟩
   have hm:s∈kw:=by simp [kw, *]
   simp [zaZ,hm]
 refine zay ?_
 refine br (fun c12=>?_) (fun c12=>?_)
 · refine ⟨Ext.refl w,?_⟩
   have hm:s∈kw:=by simp [kw, *]
   simp [zaZ,hm]
 refine zay ?_
 refine br (fun c13=>?_) (fun c13=>?_)
 · refine ⟨Ext.refl w,?_⟩
   have hm:s∈kw:=by simp [kw, *]
   simp [zaZ,hm]
 refine (l02Word_ok ).mono ?_
 rintro _ w1_ ⟨hx1_,rfl⟩
 refine ⟨hx1_,?_⟩
 have hm:s∉kw:=by simp [kw, *]
 simp [zaZ,hm]
def F241 (a0:Value) (w:World) (R:VW):Prop:=
 rN 9 3 a0 w fun x5=>
 rB .lss 3 T0 U0 x5 (iV 1) w fun x6=>
 BR x6
 (R (Value.bool false) w)
 (rN 9 3 a0 w fun x9=>
 rB .gtr 3 T0 U0 x9 (iV 12) w fun x10=>
 BR x10
 (R (Value.bool false) w)
 (rD (Instr.index 9 a0 (iV 0)) w fun x14=>
 cL 290 [x14] w fun x15 w=>
 rD (Op.unary .not x15) w fun x16=>
 BR x16
 (R (Value.bool false) w)
 (LOOPI [3] [(iV 0)] w fun u4 w next4=>
 rN 9 3 a0 w fun x20=>
 rC (u4 3) x20 w fun x21=>
 BR x21
 (rD (Instr.index 9 a0 (u4 3)) w fun x26=>
 cL 290 [x26] w fun x27 w=>
 rD (Op.unary .not x27) w fun x28=>
 BR x28
 (rD (Instr.index 9 a0 (u4 3)) w fun x32=>
 cL 291 [x32] w fun x33 w=>
 rD (Op.unary .not x33) w fun x34=>
 BR x34
 (R (Value.bool false) w)
 (rA (u4 3) (iV 1) w fun x23=>
 next4 [x23] w))
 (rA (u4 3) (iV 1) w fun x23=>
 next4 [x23] w))
 (rB .eql 9 T0 U0 a0 (Value.string (ByteArray.mk #[97,110,100])) w fun x38=>
 BR x38
 (R (Value.bool false) w)
 (rB .eql 9 T0 U0 a0 (Value.string (ByteArray.mk #[99,97,108,108])) w fun x39=>
 BR x39
 (R (Value.bool false) w)
 (rB .eql 9 T0 U0 a0 (Value.string (ByteArray.mk #[101,108,115,101])) w fun x40=>
 BR x40
 (R (Value.bool false) w)
 (rB .eql 9 T0 U0 a0 (Value.string (ByteArray.mk #[103,108,111,98,97,108,115])) w fun x41=>
 BR x41
 (R (Value.bool false) w)
 (rB .eql 9 T0 U0 a0 (Value.string (ByteArray.mk #[105,102])) w fun x42=>
 BR x42
 (R (Value.bool false) w)
 (rB .eql 9 T0 U0 a0 (Value.string (ByteArray.mk #[108,111,99,107])) w fun x43=>
 BR x43
 (R (Value.bool false) w)
 (rB .eql 9 T0 U0 a0 (Value.string (ByteArray.mk #[108,111,99,107,115])) w fun x44=>
 BR x44
 (R (Value.bool false) w)
 (rB .eql 9 T0 U0 a0 (Value.string (ByteArray.mk #[110,111,116])) w fun x45=>
 BR x45
 (R (Value.bool false) w)
 (rB .eql 9 T0 U0 a0 (Value.string (ByteArray.mk #[112,114,111,99])) w fun x46=>
 BR x46
 (R (Value.bool false) w)
 (rB .eql 9 T0 U0 a0 (Value.string (ByteArray.mk #[115,107,105,112])) w fun x47=>
 BR x47
 (R (Value.bool false) w)
 (rB .eql 9 T0 U0 a0 (Value.string (ByteArray.mk #[115,112,97,119,110])) w fun x48=>
 BR x48
 (R (Value.bool false) w)
 (rB .eql 9 T0 U0 a0 (Value.string (ByteArray.mk #[117,110,108,111,99,107])) w fun x49=>
 BR x49
 (R (Value.bool false) w)
 (rB .eql 9 T0 U0 a0 (Value.string (ByteArray.mk #[119,104,105,108,101])) w fun x50=>
 BR x50
 (R (Value.bool false) w)
 (R (Value.bool true) w)))))))))))))))))
def cfg241:Cfg:=⟨extL,[],[(4,68719214604,[3])],[],[],[],[]⟩
theorem F241_call {a0:Value} {w:World} {R:VW} (h:F241 a0 w R):cL 241 [a0] w R:=co (g:=cfg241) Tryz.func241 (by kernel_rfl) (by kernel_rfl) (by kernel_rfl) h
theorem zgf {w:World} {s:ByteArray}    :
   CALL Tryz.prog 241 [.string s] w fun r w'=>Ext w w'∧(r=.bool (zaZ s)):=by
 refine F241_call ?_
 unfold F241
 refine zdx u9 ?_
 refine zai ?_
 refine br (fun c1=>?_) (fun c1=>?_)
 · refine ⟨Ext.refl w,?_⟩
   simp [zaZ,zjd (s:=s) (by omega)]
 refine zdx u9 ?_
 refine zb0 ?_
 refine br (fun c2=>?_) (fun c2=>?_)
 · refine ⟨Ext.refl w,?_⟩
   simp [zaZ,zk1 (s:=s) (by omega)]
 refine zcF (i:=0) u9 (by omega) ?_
 refine (zjc ).mono ?_
 rintro _ w1_ ⟨hx1_,rfl⟩
 refine zas ?_
 refine br (fun c3=>?_) (fun c3=>?_)
 · refine ⟨hx1_,?_⟩
   simp [zaZ,zk2 (s:=s) (by omega) c3]
 refine zaE (s.size) (fun k us w'=>us=[.int .i64 (k:Int)]∧Ext w1_ w'∧(∀ b∈(bts s).take k,(zjb b || zm5 b)=true)) (0) (by omega) ⟨by simp,Ext.refl w1_,by simp⟩ ?_
 rintro k m4 uu4 w2_ hk4 ⟨hu,hx2_,hinv⟩
 simp only [List.map_cons,List.map_nil,List.cons.injEq,and_true] at hu
 try rw [hu]
 try clear hu
 refine zdx u9 ?_
 refine zai ?_
 refine br (fun c4=>?_) (fun c4=>?_)
 · refine zcF u9 (by omega) ?_
   refine (zjc ).mono ?_
   rintro _ w3_ ⟨hx3_,rfl⟩
   refine zas ?_
   refine br (fun c5=>?_) (fun c5=>?_)
   · refine zcF u9 (by omega) ?_
     refine (zl8 ).mono ?_
     rintro _ w4_ ⟨hx4_,rfl⟩
     refine zas ?_
     refine br (fun c6=>?_) (fun c6=>?_)
     · refine ⟨(hx1_.trans (hx2_.trans (hx3_.trans hx4_))),?_⟩
       simp [zaZ,zo9 (s:=s) (by omega) c5 c6]
     refine zah (by omega) ?_
     refine ⟨m4-1,by omega,k+1,by omega,by simp,(hx2_.trans (hx3_.trans hx4_)),?_⟩
     exact zge (by omega) hinv (.inr (by simp only [zm5,Decidable.not_not.1 c6,and_self,decide_true]))
   refine zah (by omega) ?_
   refine ⟨m4-1,by omega,k+1,by omega,by simp,(hx2_.trans hx3_),?_⟩
   exact zge (by omega) hinv (.inl (by simp only [zjb,Decidable.not_not.1 c5,and_self,decide_true]))
 refine zay ?_
 refine br (fun c7=>?_) (fun c7=>?_)
 · refine ⟨(hx1_.trans hx2_),?_⟩
   have hm:s∈kw:=by simp only [kw,List.mem_cons, *,true_or,or_true]
   simp [zaZ,hm]
 refine zay ?_
 refine br (fun c8=>?_) (fun c8=>?_)
 · refine ⟨(hx1_.trans hx2_),?_⟩
   have hm:s∈kw:=by simp only [kw,List.mem_cons, *,true_or,or_true]
   simp [zaZ,hm]
 refine zay ?_
 refine br (fun c9=>?_) (fun c9=>?_)
 · refine ⟨(hx1_.trans hx2_),?_⟩
   have hm:s∈kw:=by simp only [kw,List.mem_cons, *,true_or,or_true]
   simp [zaZ,hm]
 refine zay ?_
 refine br (fun c10=>?_) (fun c10=>?_)
 · refine ⟨(hx1_.trans hx2_),?_⟩
   have hm:s∈kw:=by simp only [kw,List.mem_cons, *,true_or,or_true]
   simp [zaZ,hm]
 refine zay ?_
 refine br (fun c11=>?_) (fun c11=>?_)
 · refine ⟨(hx1_.trans hx2_),?_⟩
   have hm:s∈kw:=by simp only [kw,List.mem_cons, *,true_or,or_true]
   simp [zaZ,hm]
 refine zay ?_
 refine br (fun c12=>?_) (fun c12=>?_)
 · refine ⟨(hx1_.trans hx2_),?_⟩
   have hm:s∈kw:=by simp only [kw,List.mem_cons, *,true_or,or_true]
   simp [zaZ,hm]
 refine zay ?_
 refine br (fun c13=>?_) (fun c13=>?_)
 · refine ⟨(hx1_.trans hx2_),?_⟩
   have hm:s∈kw:=by simp only [kw,List.mem_cons, *,true_or,or_true]
   simp [zaZ,hm]
 refine zay ?_
 refine br (fun c14=>?_) (fun c14=>?_)
 · refine ⟨(hx1_.trans hx2_),?_⟩
   have hm:s∈kw:=by simp only [kw,List.mem_cons, *,true_or,or_true]
   simp [zaZ,hm]
 refine zay ?_
 refine br (fun c15=>?_) (fun c15=>?_)
 · refine ⟨(hx1_.trans hx2_),?_⟩
   have hm:s∈kw:=by simp only [kw,List.mem_cons, *,true_or,or_true]
   simp [zaZ,hm]
 refine zay ?_
 refine br (fun c16=>?_) (fun c16=>?_)
 · refine ⟨(hx1_.trans hx2_),?_⟩
   have hm:s∈kw:=by simp only [kw,List.mem_cons, *,true_or,or_true]
   simp [zaZ,hm]
 refine zay ?_
 refine br (fun c17=>?_) (fun c17=>?_)
 · refine ⟨(hx1_.trans hx2_),?_⟩
   have hm:s∈kw:=by simp only [kw,List.mem_cons, *,true_or,or_true]
   simp [zaZ,hm]
 refine zay ?_
 refine br (fun c18=>?_) (fun c18=>?_)
 · refine ⟨(hx1_.trans hx2_),?_⟩
   have hm:s∈kw:=by simp only [kw,List.mem_cons, *,true_or,or_true]
   simp [zaZ,hm]
 refine zay ?_
 refine br (fun c19=>?_) (fun c19=>?_)
 · refine ⟨(hx1_.trans hx2_),?_⟩
   have hm:s∈kw:=by simp only [kw,List.mem_cons, *,true_or,or_true]
   simp [zaZ,hm]
 refine ⟨(hx1_.trans hx2_),?_⟩
 have hm:s∉kw:=by simp only [kw,List.mem_cons,List.not_mem_nil,or_false, *,not_false_eq_true]
 simp [zaZ,hm,zm7 (by omega) (by omega) (Decidable.not_not.1 c3) (by omega) hinv]
end Go.Proofs.YtdmailcgaekimaaGreat
namespace Go.Sh
open Go.RowKit (Below)
open Rep (rep)
theorem zhD (off:Nat):∀ (l:List Value) (k:Nat) (cs:Array Value),
   ((l.zipIdx k).foldl (fun (cs:Array Value) (p:Value×Nat)=>cs.setIfInBounds (off+p.2) p.1) cs).size=cs.size ∧
   ∀ i,((l.zipIdx k).foldl (fun (cs:Array Value) (p:Value×Nat)=>cs.setIfInBounds (off+p.2) p.1) cs)[i]?=if off+k≤i∧i<off+k+l.length∧i<cs.size then l[i-(off+k)]? else cs[i]?
 | [],k,cs=>by
   refine ⟨rfl,fun i=>?_⟩
   rw [if_neg (by simp;omega)]
   rfl
 | v :: l,k,cs=>by
   obtain ⟨h1,h2⟩:=zhD off l (k+1) (cs.setIfInBounds (off+k) v)
   simp only [List.zipIdx_cons,List.foldl_cons]
   refine ⟨by rw [h1];simp,fun i=>?_⟩
   rw [h2]
   simp only [Array.size_setIfInBounds,List.length_cons]
   by_cases hi:i=off+k
   · subst hi
     rw [if_neg (by omega)]
     by_cases hs:off+k<cs.size
     · rw [if_pos (by omega)];simp [hs]
     rw [if_neg (by omega),Array.getElem?_eq_none (by rw [Array.size_setIfInBounds];omega),Array.getElem?_eq_none (by omega)]
   by_cases hr:off+(k+1)≤i∧i<off+(k+1)+l.length∧i<cs.size
   · rw [if_pos hr,if_pos (by omega)]
     have:i-(off+k)=(i-(off+(k+1)))+1:=by omega
     rw [this,List.getElem?_cons_succ]
   rw [if_neg hr,if_neg (by omega),Array.getElem?_setIfInBounds_ne (by omega)]
theorem zm8 (v:Value) (cells:Array Value) (s:Nat) (hv:v.cells.size=s) (hc:cells.size=s):Instr.fill (fun i=>some (i*s,s)) cells [(0,v)]=some v.cells:=by
 unfold Instr.fill
 simp only [Nat.zero_mul]
 rw [if_neg (by simp;omega)]
 unfold Instr.fill
 congr 1
 obtain ⟨h1,h2⟩:=zhD 0 v.cells.toList 0 cells
 have e:v.cells.zipIdx.foldl (fun (cs:Array Value) (x:Value×Nat)=>match x with | (c,j)=>cs.setIfInBounds (0+j) c) cells
     = (v.cells.toList.zipIdx 0).foldl (fun (cs:Array Value) (p:Value×Nat)=>cs.setIfInBounds (0+p.2) p.1) cells:=by
   rw [←Array.foldl_toList,Array.toList_zipIdx]
 rw [e]
 apply Array.ext_getElem?
 intro i
 rw [h2]
 by_cases hi:i<s
 · rw [if_pos (by simp;omega)];simp
 rw [if_neg (by simp;omega),Array.getElem?_eq_none (by omega),Array.getElem?_eq_none (by omega)]
section
variable {w w' w'':World} {lo hi a b:Nat}
end
def RowI {α:Type} [Rep α] (lo hi:Nat) (e:TypeId) (w:World) (v:Value) (l:List α):Prop:=(∃ a,v=.slice a 0 0∧l=[])∨∃ F,RowF F e w v l∧F.Nodup∧∀ b∈F,lo≤b∧b<hi
section
variable {P:Program} {w w0 w':World} {α:Type} [Rep α] {lo hi a b e:Nat} {v:Value} {l:List α}
theorem zct (a:Option Addr):OwnI (α:=List α) lo hi w (.slice a 0 0) []:=
 ⟨[],⟨⟨_,⟨a,0,[],[],rfl,Nat.le_refl _,Nat.zero_le _,⟨rfl,rfl⟩,.inl ⟨rfl,rfl⟩⟩,rfl⟩,List.nodup_nil,Wr.nil w⟩,by simp⟩
theorem RowI.ext (h:RowI lo hi e w v l) (hx:Ext w w'):RowI lo hi e w' v l:=by
 rcases h with h | ⟨F,h1,h2,h3⟩
 · exact .inl h
 exact .inr ⟨F,h1.ext hx,h2,h3⟩
theorem RowI.chg (h:RowI lo hi e w v l) (hc:ChgI a b w w') (hd:hi≤a∨b≤lo):RowI lo hi e w' v l:=by
 rcases h with h | ⟨F,h1,h2,h3⟩
 · exact .inl h
 exact .inr ⟨F,h1.keep fun c hcm=>hc.block c (h1.lt c hcm) (by have:=h3 c hcm;omega),h2,h3⟩
theorem RowI.own (h:RowI lo hi e w v l):OwnI lo hi w v l:=by
 rcases h with ⟨a,rfl,rfl⟩ | ⟨F,h1,h2,h3⟩
 · exact zct a
 exact ⟨F,⟨h1.own,h2,h1.wr⟩,h3⟩
theorem RowI.is (h:RowI lo hi e w v l):Is w v l:=h.own.is
theorem RowI.mono {lo' hi':Nat} (h:RowI lo hi e w v l) (h1:lo'≤lo) (h2:hi≤hi'):RowI lo' hi' e w v l:=by
 rcases h with h | ⟨F,h1,h2,h3⟩
 · exact .inl h
 exact .inr ⟨F,h1,h2,fun b hb=>by have:=h3 b hb;omega⟩
theorem zcg (lo hi e:Nat) (w:World) (a:Option Addr):RowI (α:=α) lo hi e w (.slice a 0 0) []:=.inl ⟨a,rfl,rfl⟩
theorem zdo (lo hi e:Nat) (w:World):RowI (α:=α) lo hi e w (.slice none 0 0) []:=.inl ⟨none,rfl,rfl⟩
theorem zgg (e:Nat) (w:World):RowF (α:=α) [] e w (.slice none 0 0) []:=⟨[],[],⟨by simp,.inl ⟨rfl,rfl⟩⟩,⟨rfl,rfl⟩,rfl,Wr.nil _⟩
theorem zhE {m1 m2:Sem Value} {K:Value→World→Prop} (h:m1.run P w=m2.run P w) (k:OP P m2 w K):OP P m1 w K:=by
 obtain ⟨v,w',hr,hk⟩:=k;exact ⟨v,w',h.trans hr,hk⟩
theorem zex {t ty:TypeId} {by_ n c:Nat} {x:Addr} {b o:Nat} {xs:List Value} (ht:P.underlying t=some (.slice e)) (he:tyI P e=some (Rep.size α,by_,Rep.agg α)) (hzc:(P.info? e).map (fun i=>(i.zero.map (·.cells.size)))=some (some (Rep.size α)))
   (hl:xs.length=n*Rep.size α) (hr:w.rangeAt b o xs) (h0:0<n) (hm:n≤maxLen) (hb:n*by_≤140737488355328) :
   (Builtin.append_ #[t,t] ty #[.slice (some x) 0 0,.slice (some ⟨b,o,none⟩) n c]).run P w=(Builtin.append_ #[t,t] ty #[.slice none 0 0,.slice (some ⟨b,o,none⟩) n c]).run P w:=by
 obtain ⟨i,d,hi,hd,hs,hby,hg⟩:=zcv he
 simp only [hi,Option.map_some,Option.some.injEq] at hzc
 obtain ⟨z,hz,hzs⟩:=Option.map_eq_some_iff.1 hzc
 rw [zam] at hm
 have h1:=run_append_nil (P:=P) w t ty e i z ht hi hz ⟨b,o,none⟩ n c xs (by rw [hs];exact hl) (fun j u hu=>by rw [Addr.add_mid];exact hr j u hu) h0 (by omega) (by rw [hby];omega)
 have h2:=run_append_grow (P:=P) w t ty e i z ht hi hz x 0 0 [] (by simp) (by simp) ⟨b,o,none⟩ n c xs (by rw [hs];exact hl) (fun j u hu=>by rw [Addr.add_mid];exact hr j u hu) (by omega) (by omega) (growslice_fits (by omega) (by rw [hby];simpa using hb))
 rw [h1,h2]
 simp
theorem zgh {t:TypeId} {by_:Nat} {u:Value} {x:α} {K:Value→World→Prop} (ht:P.underlying t=some (.slice e)) (he:tyI P e=some (Rep.size α,by_,Rep.agg α)) (hz:zbB P e=true) (hsz:Rep.size α≤1000)
   {F:List Nat} (hx:Mine F w u x)
   (k:∀ w',Ext w w'→Mine (w.heap.size :: F) w' (.slice (some ⟨w.heap.size,0,none⟩) 1 1) [x]→K (.slice (some ⟨w.heap.size,0,none⟩) 1 1) w'):OP P (Instr.buildSlice t 1 #[(0,u)]) w K:=by
 obtain ⟨⟨cs,hr,rfl⟩,hn,hw⟩:=hx
 have hcl:=zdy hr
 have hlen:=Rep.len hr
 have hvs:(mkv α cs).cells.size=Rep.size α:=by rw [←Array.length_toList,hcl,hlen]
 obtain ⟨i,d,hi,hd,hs,hby,hg⟩:=zcv he
 unfold zbB at hz
 rw [hi] at hz
 obtain ⟨z,hz⟩:=Option.isSome_iff_exists.1 hz
 have hpos:=Rep.pos (α:=α)
 refine ⟨_,w.alloc (.cells (mkv α cs).cells e),?_,k _ (zaN w _) ?_⟩
 · have hne:¬Rep.size α=0:=by omega
   have h24:¬2^24<Rep.size α:=by omega
   simp only [Instr.buildSlice,Sem.run_bind,run_underlying ht,Result.andThen_ok,zaD he,Nat.one_mul]
   simp [h24,hne,zeroValue,typeInfo,hi,hz,zm8 _ _ _ hvs,newRow]
 have hx:=zaN w (.cells (mkv α cs).cells e)
 have hB:(w.alloc (.cells (mkv α cs).cells e)).heap[w.heap.size]?=some (.cells (mkv α cs).cells e (0,0)):=heap_alloc_new w _
 have hFlt:=Rep.lt hr
 refine ⟨⟨_,⟨_,1,F,cs,rfl,Nat.le_refl _,by rw [zam];omega,Cells.single (zbV hr hx),.inr ⟨w.heap.size,0,rfl,rfl,?_,?_⟩⟩,rfl⟩,?_,?_⟩
 · intro j y hy
   simp only [World.cell?,hB]
   rw [←hcl] at hy
   simpa using hy
 · exact (Array.getElem?_eq_some_iff.1 hB).1
 · exact List.nodup_cons.2 ⟨fun h=>by have:=hFlt _ h;omega,hn⟩
 intro c hc
 rcases List.mem_cons.1 hc with rfl | hc
 · exact ⟨_,_,hB⟩
 exact hw.ext hx c hc
theorem zgO {t:TypeId} {by_:Nat} {u:Value} {x:α} {K:Value→World→Prop} (ht:P.underlying t=some (.slice e)) (he:tyI P e=some (Rep.size α,by_,Rep.agg α)) (hz:zbB P e=true) (hsz:Rep.size α≤1000)
   (hx:OwnI lo hi w u x) (hlo:lo≤w.heap.size)
   (k:∀ v w',Ext w w'→OwnI lo w'.heap.size w' v [x]→K v w'):OP P (Instr.buildSlice t 1 #[(0,u)]) w K:=by
 obtain ⟨F,hm,hF⟩:=hx
 refine zgh ht he hz hsz hm fun w' hxx hm'=>k _ w' hxx ⟨_,hm',fun b hb=>⟨?_,hm'.lt b hb⟩⟩
 rcases List.mem_cons.1 hb with rfl | hb
 · exact hlo
 exact (hF b hb).1
theorem zaK {t:TypeId} {by_:Nat} {K:Value→World→Prop} (ht:P.underlying t=some (.slice e)) (he:tyI P e=some (Rep.size α,by_,Rep.agg α))
   (k:∀ a w',Ext w w'→RowI (α:=α) w'.heap.size w'.heap.size e w' (.slice (some a) 0 0) []→K (.slice (some a) 0 0) w'):OP P (Instr.buildSlice t 0 #[]) w K:=
 zhZ (α:=α) ht he fun a w' hx hr=>k _ w' hx (zcg _ _ _ _ _)
theorem zjQ {t ty:TypeId} {by_:Nat} {u:Value} {x:α} {lo2 hi2:Nat} {K C:Value→World→Prop} (ht:P.underlying t=some (.slice e)) (he:tyI P e=some (Rep.size α,by_,Rep.agg α)) (hz:zbB P e=true)
   (hzc:(P.info? e).map (fun i=>(i.zero.map (·.cells.size)))=some (some (Rep.size α))) (hsz:Rep.size α≤1000) (hv:RowI lo hi e w v l) (hlo:lo≤w.heap.size) (hx:OwnI lo2 hi2 w u x) (hl:hi≤lo2) (hl2:lo≤lo2) (hm:l.length+1≤maxLen) (hb:(l.length+1)*by_≤140737488355328)
   (k:∀ v' w',ChgI lo hi w w'→RowI lo w'.heap.size e w' v' (l++[x])→K v' w')
   (hC:∀ s w1,Ext w w1→OP P (Builtin.append_ #[t,t] ty [v,s].toArray) w1 K→C s w1):OP P (Instr.buildSlice t 1 #[(0,u)]) w C:=by
 obtain ⟨G,hmx,hG⟩:=hx
 refine zgh ht he hz hsz hmx fun w1 hx1 hm1=>?_
 obtain ⟨⟨cs,⟨a,cap,Fi,xs,rfl,h1,h2,hc,h4⟩,hveq⟩,hn1,hw1⟩:=hm1
 simp only [mkv,Rep.agg,cond_false,List.headD_cons,Value.slice.injEq,List.length_cons,List.length_nil] at hveq
 obtain ⟨rfl,_,rfl⟩:=hveq
 rcases h4 with ⟨h4,_⟩ | ⟨b,o,hab,hFe,hra,hbl⟩
 · simp at h4
 simp only [List.cons.injEq] at hFe
 obtain ⟨_,rfl⟩:=hFe
 have key:∀ (v:Value) (F:List Nat),RowF F e w v l→F.Nodup→(∀ b∈F,lo≤b∧b<hi)→OP P (Builtin.append_ #[t,t] ty [v,.slice (some ⟨w.heap.size,0,none⟩) 1 1].toArray) w1 K:=by
   intro v F hF hFn hFl
   have hF1:=hF.ext hx1
   have hd:(G++F).Nodup:=by
     rw [List.nodup_append]
     refine ⟨hmx.nodup,hFn,fun p hp q hq e=>?_⟩
     subst e
     have:=hG p hp
     have:=hFl p hq
     omega
   refine zeZ (m:=[x]) ht he hzc hF1 hFn rfl hc (.inr ⟨b,o,hab,hra⟩) (hw1.sub (by simp +contextual)) hd (by simpa using hm) (by simpa using hb) fun v' w' F' hch hfull hr' hn' hs'=>?_
   have hown:∀ c∈v.ownBlock.toList,lo≤c∧c<hi:=fun c hc=>by
     obtain ⟨xs,Fi,_,_,rfl,_⟩:=hF
     exact hFl c (by simp only [List.mem_append];exact .inl hc)
   refine k v' w' ((Ext.toI hx1).trans (hch.toI hown)) (.inr ⟨F',hr',hn',fun c hc=>⟨?_,hr'.lt c hc⟩⟩)
   rcases hs' c hc with h | h | h
   · exact (hFl c h).1
   · have:=hG c h;omega
   have:=hx1.size;omega
 refine hC _ w1 hx1 ?_
 rcases hv with ⟨a0,rfl,rfl⟩ | ⟨F,hF,hFn,hFl⟩
 · have kn:=key (.slice none 0 0) [] (zgg e w) List.nodup_nil (by simp)
   cases a0 with
   | none=>exact kn
   | some x0=>
     simp only [Option.some.injEq,Addr.mk.injEq] at hab
     obtain ⟨rfl,rfl,_⟩:=hab
     exact zhE (zex (α:=α) (n:=1) ht he hzc (by simpa using Cells.len hc) hra (by omega) (by rw [zam];omega) (by simpa using hb)) kn
 exact key v F hF hFn hFl
theorem zch {t ty:TypeId} {by_:Nat} {u:Value} {x:α} {lo2 hi2:Nat} {K:Value→World→Prop} (ht:P.underlying t=some (.slice e)) (he:tyI P e=some (Rep.size α,by_,Rep.agg α)) (hz:zbB P e=true)
   (hzc:(P.info? e).map (fun i=>(i.zero.map (·.cells.size)))=some (some (Rep.size α))) (hsz:Rep.size α≤1000) (hv:RowI lo hi e w v l) (hlo:lo≤w.heap.size) (hx:OwnI lo2 hi2 w u x) (hl:hi≤lo2) (hl2:lo≤lo2) (hm:l.length+1≤maxLen) (hb:(l.length+1)*by_≤140737488355328)
   (k:∀ v' w',ChgI lo hi w w'→RowI lo w'.heap.size e w' v' (l++[x])→K v' w'):OP P (Instr.buildSlice t 1 #[(0,u)]) w fun s w1=>OP P (Builtin.append_ #[t,t] ty [v,s].toArray) w1 K:=
 zjQ ht he hz hzc hsz hv hlo hx hl hl2 hm hb k fun _ _ _ h=>h
theorem zjR {t ty:TypeId} {by_:Nat} {u:Value} {x:α} {lo2 hi2:Nat} {K:Value→World→Prop} (ht:P.underlying t=some (.slice e)) (he:tyI P e=some (Rep.size α,by_,Rep.agg α)) (hz:zbB P e=true)
   (hzc:(P.info? e).map (fun i=>(i.zero.map (·.cells.size)))=some (some (Rep.size α))) (hsz:Rep.size α≤1000) (hv:RowI lo hi e w v l) (hlo:lo≤w.heap.size) (hx:OwnI lo2 hi2 w u x) (hl:hi≤lo2) (hl2:lo≤lo2) (hm:l.length+1≤maxLen) (hb:(l.length+1)*by_≤140737488355328)
   (k:∀ v' w',ChgI lo hi w w'→RowI lo w'.heap.size e w' v' (l++[x])→K v' w'):OP P (Instr.buildSlice t 1 #[(0,u)]) w fun s w1=>Ext w w1∧OP P (Builtin.append_ #[t,t] ty [v,s].toArray) w1 K:=
 zjQ ht he hz hzc hsz hv hlo hx hl hl2 hm hb k fun _ _ hx h=>⟨hx,h⟩
theorem zd8 [Flat α] {t ty:TypeId} {by_:Nat} {src:Value} {m:List α} {K:Value→World→Prop} (ht:P.underlying t=some (.slice e)) (he:tyI P e=some (Rep.size α,by_,Rep.agg α))
   (hzc:(P.info? e).map (fun i=>(i.zero.map (·.cells.size)))=some (some (Rep.size α))) (hv:RowI lo hi e w v l) (hlo:lo≤w.heap.size) (hs:Is w0 src m) (hx:Ext w0 w) (hm:l.length+m.length≤maxLen) (hb:(l.length+m.length)*by_≤140737488355328)
   (k:∀ v' w',ChgI lo hi w w'→RowI lo w'.heap.size e w' v' (l++m)→K v' w'):OP P (Builtin.append_ #[t,t] ty [v,src].toArray) w K:=by
 obtain ⟨a,cap,Fi,xs,rfl,h1,h2,hc,h4⟩:=zcq (hs.ext hx)
 have hFi:=Cells.flat (xs:=xs) hc
 subst hFi
 have key:∀ (v:Value) (F:List Nat),RowF F e w v l→F.Nodup→(∀ b∈F,lo≤b∧b<hi)→OP P (Builtin.append_ #[t,t] ty [v,.slice a m.length cap].toArray) w K:=by
   intro v F hF hFn hFl
   refine zeZ (m:=m) ht he hzc hF hFn rfl hc (by rcases h4 with h | ⟨b,o,ha,hr,_⟩;exact .inl h;exact .inr ⟨b,o,ha,hr⟩) (Wr.nil _) (by simpa using hFn) hm hb fun v' w' F' hch hfull hr' hn' hs'=>?_
   have hown:∀ c∈v.ownBlock.toList,lo≤c∧c<hi:=fun c hc=>by
     obtain ⟨xs,Fi,_,_,rfl,_⟩:=hF
     exact hFl c (by simp only [List.mem_append];exact .inl hc)
   refine k v' w' (hch.toI hown) (.inr ⟨F',hr',hn',fun c hc=>⟨?_,hr'.lt c hc⟩⟩)
   rcases hs' c hc with h | h | h
   · exact (hFl c h).1
   · simp at h
   omega
 rcases hv with ⟨a0,rfl,rfl⟩ | ⟨F,hF,hFn,hFl⟩
 · have kn:=key (.slice none 0 0) [] (zgg e w) List.nodup_nil (by simp)
   cases a0 with
   | none=>exact kn
   | some x0=>
     by_cases hm0:m=[]
     · subst hm0
       refine ⟨.slice (some x0) 0 0,w,?_,k _ w (ChgI.refl w) (zcg _ _ _ _ _)⟩
       have hf:(Builtin.firstCells (Rep.size α) 0 (.slice a 0 cap)).run P w=.ok #[] w:=by
         cases a with
         | none=>rfl
         | some a=>simp [Builtin.firstCells,loadCells,loadCellsFrom]
       simp [Builtin.append_,run_underlying ht,zaD he,Builtin.lenOf,hf,storeCells]
     rcases h4 with h | ⟨b,o,rfl,hr,_⟩
     · exact absurd h hm0
     exact zhE (zex (α:=α) ht he hzc (Cells.len hc) hr (List.length_pos_iff.2 hm0) (by simpa using hm) (by simpa using hb)) kn
 exact key v F hF hFn hFl
theorem zjS {a:Option Addr} {cap:Nat} {l:List α} (h:Is w (.slice a l.length cap) l) (k:Nat) (hk:k≤l.length):Is w (.slice a k cap) (l.take k):=by
 obtain ⟨F,cs,⟨a',cap',Fi,xs,rfl,h1,h2,hc,h4⟩,hv⟩:=h
 simp only [mkv,Rep.agg,cond_false,List.headD_cons,Value.slice.injEq] at hv
 obtain ⟨rfl,_,rfl⟩:=hv
 have e:l=l.take k++l.drop k:=by simp
 have hlen:(l.take k).length=k:=by simp;omega
 rw [e] at hc
 obtain ⟨F1,F2,x1,x2,rfl,rfl,c1,c2⟩:=Cells.split hc
 by_cases hd:l.take k=[]
 · refine ⟨[],_,⟨a,cap,F1,x1,rfl,by rw [hlen];omega,h2,c1,.inl ⟨hd,rfl⟩⟩,?_⟩
   rw [hlen];rfl
 rcases h4 with ⟨rfl,_⟩ | ⟨b,o,rfl,rfl,hr,hb⟩
 · simp at hd
 refine ⟨_,_,⟨some ⟨b,o,none⟩,cap,F1,x1,rfl,by rw [hlen];omega,h2,c1,.inr ⟨b,o,rfl,rfl,(zaB hr).1,hb⟩⟩,?_⟩
 rw [hlen];rfl
theorem zh7 {t:TypeId} {by_:Nat} {v:Value} {l:List α} {i:Int} {K:Value→Prop} (ht:P.underlying t=some (.slice e)) (he:tyI P e=some (Rep.size α,by_,Rep.agg α)) (h:Is w0 v l) (h0:0≤i) (h1:i.toNat≤l.length)
   (k:∀ v',Is w0 v' (l.take i.toNat)→K v'):RD P (Instr.sliceAt t v none (some (.int .i64 i)) none) w K:=by
 obtain ⟨a,cap,Fi,xs,rfl,hc1,hcm,_,h4⟩:=zcq h
 have hb:∀ w',(Instr.sliceBounds true l.length cap none (some (.int .i64 i)) none).run P w'=.ok (0,i.toNat,cap) w':=fun w'=>by
   have:i≤(cap:Int):=by omega
   simp [Instr.sliceBounds,Instr.sliceBound,asIntOf,h0,this]
 refine zaV (v:=.slice a i.toNat cap) (fun w' _=>?_) (k _ (zjS h i.toNat h1))
 have hz:(if cap=0 then a else a.map (fun x=>x.add (0*Rep.size α)))=a:=by
   split
   · rfl
   cases a<;>simp [Addr.add_mid,Addr.add]
 simp only [Instr.sliceAt,Instr.slice,Sem.run_bind,run_underlying ht,Result.andThen_ok,hb,zaD he]
 simp
 exact fun _=>by cases a<;>simp [Addr.add_mid,Addr.add]
theorem zjT {t:TypeId} {by_:Nat} {v:Value} {l:List α} {i j:Int} {K:Value→Prop} (ht:P.underlying t=some (.slice e)) (he:tyI P e=some (Rep.size α,by_,Rep.agg α)) (h:Is w0 v l) (h0:0≤i) (h1:i≤j) (h2:j.toNat≤l.length)
   (k:∀ v',Is w0 v' ((l.take j.toNat).drop i.toNat)→K v'):RD P (Instr.sliceAt t v (some (.int .i64 i)) (some (.int .i64 j)) none) w K:=by
 obtain ⟨a,cap,Fi,xs,rfl,hc1,hcm,_,h4⟩:=zcq h
 have hb:∀ w',(Instr.sliceBounds true l.length cap (some (.int .i64 i)) (some (.int .i64 j)) none).run P w'=.ok (i.toNat,j.toNat,cap) w':=fun w'=>by
   have h3:j≤(cap:Int):=by omega
   have h5:0≤j:=by omega
   simp [Instr.sliceBounds,Instr.sliceBound,asIntOf,h0,h1,h3,h5]
   intro h6
   omega
 have hl:(l.take j.toNat).length=j.toNat:=by rw [List.length_take];omega
 have ht1:Is w0 (.slice a (l.take j.toNat).length cap) (l.take j.toNat):=by rw [hl];exact zjS h j.toNat h2
 have hd:=zlY ht1 i.toNat (by omega) (Rep.size α) rfl
 rw [hl] at hd
 refine zaV (fun w' _=>?_) (k _ hd)
 simp only [Instr.sliceAt,Instr.slice,Sem.run_bind,run_underlying ht,Result.andThen_ok,hb,zaD he]
 simp
def AtB {α:Type} [Rep α] (W w:World) (b o:Nat) (x:α):Prop:=∃ F cs,rep F W cs x∧w.rangeAt b o cs
theorem AtB.keep {W w':World} {b o:Nat} {x:α} (h:AtB W w b o x) (hb:w'.heap[b]?=w.heap[b]?):AtB W w' b o x:=by
 obtain ⟨F,cs,hr,ha⟩:=h;exact ⟨F,cs,hr,zaY ha hb⟩
theorem AtB.ext {W:World} {b o:Nat} {x:α} (h:AtB W w b o x) (hx:Ext w w'):AtB W w' b o x:=by
 obtain ⟨F,cs,hr,ha⟩:=h;exact ⟨F,cs,hr,zbW ha hx⟩
theorem AtB.at {W:World} {b o:Nat} {x:α} (h:AtB W w b o x) (hx:Ext W w):At w b o x:=by
 obtain ⟨F,cs,hr,ha⟩:=h;exact ⟨F,cs,zbV hr hx,ha⟩
theorem AtB.fst {β:Type} [Rep β] {W:World} {b o:Nat} {p:α×β} (h:AtB W w b o p):AtB W w b o p.1:=by
 obtain ⟨F,cs,⟨F1,F2,c1,c2,rfl,rfl,h1,h2⟩,hr⟩:=h
 exact ⟨F1,c1,h1,(zaB hr).1⟩
theorem AtB.snd {β:Type} [Rep β] {W:World} {b o:Nat} {p:α×β} (h:AtB W w b o p):AtB W w b (o+Rep.size α) p.2:=by
 obtain ⟨F,cs,⟨F1,F2,c1,c2,rfl,rfl,h1,h2⟩,hr⟩:=h
 have:=(zaB hr).2
 rw [Rep.len h1] at this
 exact ⟨F2,c2,h2,this⟩
theorem zdB {W:World} {t by_ b o:Nat} {x:α} {K:Value→Prop} (ht:tyI P t=some (Rep.size α,by_,Rep.agg α)) (h:AtB W w0 b o x) (hW:Ext W w0) (hx:Ext w0 w) (k:∀ v,Is W v x→K v) :
   RD P (Instr.loadAt t (.pointer (some ⟨b,o,none⟩))) w K:=by
 obtain ⟨F,cs,hr,hc⟩:=h
 exact zaV (fun w' hx'=>zer ht (zbV hr (hW.trans (hx.trans hx'))) (zbW hc (hx.trans hx'))) (k _ ⟨F,cs,hr,rfl⟩)
theorem zl9 {W w1:World} {g:Nat} {x:α} {t:TypeId} (h:Is W v x) (hV:Var P t w1 g v) (ha:Rep.agg α=true):AtB W w1 g 0 x:=by
 obtain ⟨F,cs,hr,rfl⟩:=h
 obtain ⟨e,cs',_,hB,hv,_⟩:=hV
 have:cs'=cs:=by
   simp only [mkv,ha,cond_true,Value.agg.injEq] at hv
   have:=congrArg Array.toList hv
   simpa using this.symm
 subst this
 exact ⟨F,_,hr,hB.range⟩
theorem zpa [RepZ α] {t:TypeId} {fs:Array Field} {K:Value→Prop} (hu:P.underlying t=some (.struct fs)) (hz:zb9 P t=some (RepZ.zc α)) (hf:(fs.toList.all fun f=>(P.info? f.type).isSome)=true) (ha:Rep.agg α=true)
   (k:∀ v,Is w v (RepZ.zv:α)→K v):RD P (Instr.build t #[]) w K:=by
 unfold zb9 at hz
 cases hi:P.info? t with
 | none=>simp [hi] at hz
 | some i=>
   simp only [hi] at hz
   obtain ⟨z,hz',hzc⟩:=Option.map_eq_some_iff.1 hz
   have hm:∀ w',∃ ps,(fs.mapM fun f=>do pure (f.offset,←sizeOf f.type):Sem (Array (Nat×Nat))).run P w'=.ok ps w':=by
     intro w'
     have:∀ l:List Field,(l.all fun f=>(P.info? f.type).isSome)=true→∃ ps,(l.mapM fun f=>do pure (f.offset,←sizeOf f.type):Sem (List (Nat×Nat))).run P w'=.ok ps w':=by
       intro l
       induction l with
       | nil=>intro _;exact ⟨[],by simp⟩
       | cons f l ih=>
         intro h
         simp only [List.all_cons,Bool.and_eq_true] at h
         obtain ⟨j,hj⟩:=Option.isSome_iff_exists.1 h.1
         obtain ⟨ps,hps⟩:=ih h.2
         have hsz:(sizeOf f.type).run P w'=.ok j.size w':=by simp [sizeOf,typeInfo,hj]
         exact ⟨(f.offset,j.size) :: ps,by simp only [List.mapM_cons,Sem.run_bind,hsz,Result.andThen_ok,Sem.run_pure,hps]⟩
     obtain ⟨ps,hps⟩:=this fs.toList hf
     exact ⟨ps.toArray,by rw [Array.mapM_eq_mapM_toList];simp only [map_eq_pure_bind,Sem.run_bind,hps,Result.andThen_ok,Sem.run_pure]⟩
   refine zaV (v:=mkv α (RepZ.zc α)) (fun w' _=>?_) (k _ ⟨[],_,RepZ.zr w,rfl⟩)
   obtain ⟨ps,hps⟩:=hm w'
   have e:z.cells=(RepZ.zc α).toArray:=by rw [←hzc]
   have hzv:(zeroValue t).run P w'=.ok z w':=by simp [zeroValue,typeInfo,hi,hz']
   simp only [Instr.build,Sem.run_bind,hzv,Result.andThen_ok,run_underlying hu,hps]
   simp [Instr.fill,mkv,ha,e]
end
end Go.Sh
namespace Go.Proofs.YtdmailcgaekimaaGreat
open Go Go.Sh Go.Proofs
open Rep (rep)
def zaQ:Nat→DTerm→Bool
 | n,.mk k num s ks=>
   if k=1 then decide (0≤num∧num≤1000000000)&&decide (s=ByteArray.mk #[])&&decide ((ks.length:Int)=0)
   else if k=2 then decide (num=0)&&zaZ s&&decide ((ks.length:Int)=0)
   else decide (3≤k∧k≤9)&&decide (num=0)&&decide (s=ByteArray.mk #[])&&decide ((ks.length:Int)=if k=8 then 1 else 2) &&
     (match n with | 0=>false | m+1=>ks.all (zaQ m))
theorem zdp {n:Nat} {t:DTerm} (h:t.kind=1):zaQ n t=(decide (0≤t.num∧t.num≤1000000000)&&decide (t.name=ByteArray.mk #[])&&decide ((t.kids.length:Int)=0)):=by
 obtain ⟨k,num,s,ks⟩:=t
 have:k=1:=h
 unfold zaQ;rw [if_pos this];rfl
theorem zey {n:Nat} {t:DTerm} (h:t.kind=2):zaQ n t=(decide (t.num=0)&&zaZ t.name&&decide ((t.kids.length:Int)=0)):=by
 obtain ⟨k,num,s,ks⟩:=t
 have:k=2:=h
 unfold zaQ;rw [if_neg (by omega),if_pos this];rfl
theorem za1 {n:Nat} {t:DTerm} (h1:¬t.kind=1) (h2:¬t.kind=2):zaQ n t =
   (decide (3≤t.kind∧t.kind≤9)&&decide (t.num=0)&&decide (t.name=ByteArray.mk #[])&&decide ((t.kids.length:Int)=if t.kind=8 then 1 else 2)&&(match n with | 0=>false | m+1=>t.kids.all (zaQ m))):=by
 obtain ⟨k,num,s,ks⟩:=t
 have h1:¬k=1:=h1
 have h2:¬k=2:=h2
 unfold zaQ;rw [if_neg h1,if_neg h2];rfl
theorem zhF {α:Type} {p:α→Bool} {l:List α} {k:Nat} (hk:k<l.length) (h:(l.take k).all p=true) (hp:p l[k]=true):(l.take (k+1)).all p=true:=by
 rw [List.take_succ_eq_append_getElem hk,List.all_append,h];simp [hp]
theorem zgi {α:Type} {p:α→Bool} {l:List α} {k:Nat} (hk:k<l.length) (hp:p l[k]=false):l.all p=false:=by
 rw [List.all_eq_false];exact ⟨_,List.getElem_mem hk,by simp [hp]⟩
theorem zhG {α:Type} {p:α→Bool} {l:List α} {k:Nat} (hk:l.length≤k) (h:(l.take k).all p=true):l.all p=true:=by
 rwa [List.take_of_length_le hk] at h
def ztJ (f:Nat) (n:Nat):Prop:=∀ {w W:World} {v:Value} {t:DTerm} {d:Int},Is W v t→Ext W w→d=(n:Int) →
 CALL Tryz.prog f [v,.int .i64 d] w fun r w'=>Ext w w'∧r=.bool (zaQ n t)
def F262 (a0 a1:Value) (w:World) (R:VW):Prop:=
 oP (Instr.box 78 a0) w fun x2 w=>
 JOIN [] (fun J18=>
 rF 78 x2 0 w fun x7=>
 rL 3 x7 w fun x8=>
 rB .eql 3 T0 U0 x8 (iV 1) w fun x10=>
 BR x10
 (rF 78 x2 1 w fun x11=>
 rL 3 x11 w fun x12=>
 rB .geq 3 T0 U0 x12 (iV 0) w fun x13=>
 BR x13
 (rF 78 x2 1 w fun x15=>
 rL 3 x15 w fun x16=>
 rB .leq 3 T0 U0 x16 (iV 1000000000) w fun x17=>
 BR x17
 (rF 78 x2 2 w fun x20=>
 rL 9 x20 w fun x21=>
 rB .eql 9 T0 U0 x21 (Value.string (ByteArray.mk #[])) w fun x22=>
 BR x22
 (rF 78 x2 3 w fun x25=>
 rL 76 x25 w fun x26=>
 rN 76 3 x26 w fun x27=>
 rB .eql 3 T0 U0 x27 (iV 0) w fun x28=>
 R x28 w)
 (R (Value.bool false) w))
 (R (Value.bool false) w))
 (R (Value.bool false) w))
 (rB .eql 3 T0 U0 x8 (iV 2) w fun x31=>
 BR x31
 (rF 78 x2 1 w fun x32=>
 rL 3 x32 w fun x33=>
 rB .eql 3 T0 U0 x33 (iV 0) w fun x34=>
 BR x34
 (rF 78 x2 2 w fun x36=>
 rL 9 x36 w fun x37=>
 cL 241 [x37] w fun x38 w=>
 BR x38
 (rF 78 x2 3 w fun x41=>
 rL 76 x41 w fun x42=>
 rN 76 3 x42 w fun x43=>
 rB .eql 3 T0 U0 x43 (iV 0) w fun x44=>
 R x44 w)
 (R (Value.bool false) w))
 (R (Value.bool false) w))
 (rB .eql 3 T0 U0 x8 (iV 3) w fun x47=>
 BR x47
 (rF 78 x2 3 w fun x53=>
 rL 76 x53 w fun x54=>
 rN 76 3 x54 w fun x55=>
 rB .neq 3 T0 U0 x55 (iV 2) w fun x56=>
 BR x56
 (R (Value.bool false) w)
 (J18 [] w))
 (rB .eql 3 T0 U0 x8 (iV 4) w fun x48=>
 BR x48
 (rF 78 x2 3 w fun x53=>
 rL 76 x53 w fun x54=>
 rN 76 3 x54 w fun x55=>
 rB .neq 3 T0 U0 x55 (iV 2) w fun x56=>
 BR x56
 (R (Value.bool false) w)
 (J18 [] w))
 (rB .eql 3 T0 U0 x8 (iV 5) w fun x49=>
 BR x49
 (rF 78 x2 3 w fun x53=>
 rL 76 x53 w fun x54=>
 rN 76 3 x54 w fun x55=>
 rB .neq 3 T0 U0 x55 (iV 2) w fun x56=>
 BR x56
 (R (Value.bool false) w)
 (J18 [] w))
 (rB .eql 3 T0 U0 x8 (iV 6) w fun x50=>
 BR x50
 (rF 78 x2 3 w fun x53=>
 rL 76 x53 w fun x54=>
 rN 76 3 x54 w fun x55=>
 rB .neq 3 T0 U0 x55 (iV 2) w fun x56=>
 BR x56
 (R (Value.bool false) w)
 (J18 [] w))
 (rB .eql 3 T0 U0 x8 (iV 7) w fun x51=>
 BR x51
 (rF 78 x2 3 w fun x53=>
 rL 76 x53 w fun x54=>
 rN 76 3 x54 w fun x55=>
 rB .neq 3 T0 U0 x55 (iV 2) w fun x56=>
 BR x56
 (R (Value.bool false) w)
 (J18 [] w))
 (rB .eql 3 T0 U0 x8 (iV 9) w fun x52=>
 BR x52
 (rF 78 x2 3 w fun x53=>
 rL 76 x53 w fun x54=>
 rN 76 3 x54 w fun x55=>
 rB .neq 3 T0 U0 x55 (iV 2) w fun x56=>
 BR x56
 (R (Value.bool false) w)
 (J18 [] w))
 (rB .eql 3 T0 U0 x8 (iV 8) w fun x58=>
 BR x58
 (rF 78 x2 3 w fun x59=>
 rL 76 x59 w fun x60=>
 rN 76 3 x60 w fun x61=>
 rB .neq 3 T0 U0 x61 (iV 1) w fun x62=>
 BR x62
 (R (Value.bool false) w)
 (J18 [] w))
 (R (Value.bool false) w)))))))))) (fun u18 w=>
 rF 78 x2 1 w fun x63=>
 rL 3 x63 w fun x64=>
 rB .neq 3 T0 U0 x64 (iV 0) w fun x65=>
 BR x65
 (R (Value.bool false) w)
 (rF 78 x2 2 w fun x67=>
 rL 9 x67 w fun x68=>
 rB .neq 9 T0 U0 x68 (Value.string (ByteArray.mk #[])) w fun x69=>
 BR x69
 (R (Value.bool false) w)
 (rB .eql 3 T0 U0 a1 (iV 0) w fun x73=>
 BR x73
 (R (Value.bool false) w)
 (rF 78 x2 3 w fun x75=>
 rL 76 x75 w fun x76=>
 rN 76 3 x76 w fun x77=>
 LOOPI [78] [(iV 0)] w fun u21 w next21=>
 rC (u21 78) x77 w fun x79=>
 BR x79
 (rX 76 x76 (u21 78) w fun x80=>
 rL 78 x80 w fun x81=>
 oP (Instr.alloc 78 true (.tuple #[])) w fun x6 w=>
 oS 78 x6 x81 w fun w=>
 rL 78 x6 w fun x82=>
 rB .sub 3 T0 U0 a1 (iV 1) w fun x84=>
 cL 262 [x82,x84] w fun x85 w=>
 rD (Op.unary .not x85) w fun x86=>
 BR x86
 (R (Value.bool false) w)
 (rA (u21 78) (iV 1) w fun x87=>
 next21 [x87] w))
 (R (Value.bool true) w)))))
def cfg262:Cfg:=⟨extL,[(18,9223372036854775696,[])],[(21,309182778366441411431104592,[78])],[],[],[],[]⟩
theorem F262_call {a0 a1:Value} {w:World} {R:VW} (h:F262 a0 a1 w R):cL 262 [a0,a1] w R:=co (g:=cfg262) Tryz.func262 (by kernel_rfl) (by kernel_rfl) (by kernel_rfl) h
theorem zjU {w:World} {v0:Value} {W0:World} {t:DTerm} {d:Int} {n:Nat} (h0:Is W0 v0 t) (e0:Ext W0 w) (hd:d=(n:Int)) (ih:∀ m,m+1=n→ztJ 262 m) (hn:n≤6) :
   CALL Tryz.prog 262 [v0,.int .i64 d] w fun r w'=>Ext w w'∧(r=.bool (zaQ n t)):=by
 refine F262_call ?_
 unfold F262
 refine zal zcs rfl h0 e0 fun w1_ hx1_ hA2 hV2=>?_
 refine JOIN.mk (fun us w'=>us=[]∧Ext w1_ w'∧(3≤t.kind∧t.kind≤9∧(t.kids.length:Int)=(if t.kind=8 then 1 else 2))) ?_ ?_
 · refine zaa zd7 ?_
   refine zac ty3 (zbu hA2) (Ext.refl w1_) fun hI8=>?_
   refine zag ?_
   refine br (fun c1=>?_) (fun c1=>?_)
   · refine zaa zeQ ?_
     refine zac ty3 (zbE hA2) (Ext.refl w1_) fun hI12=>?_
     refine zb1 ?_
     refine br (fun c2=>?_) (fun c2=>?_)
     · refine zaa zeQ ?_
       refine zac ty3 (zbE hA2) (Ext.refl w1_) fun hI16=>?_
       refine zcO ?_
       refine br (fun c3=>?_) (fun c3=>?_)
       · refine zaa zdO ?_
         refine zao ty9 (zbj hA2) (Ext.refl w1_) fun hS21=>?_
         refine zay ?_
         refine br (fun c4=>?_) (fun c4=>?_)
         · refine zaa zbL ?_
           refine zab zgI (zaJ hA2) (Ext.refl w1_) fun v26 h26=>?_
           have hln27:=zaf h26
           refine zae u76 h26 ?_
           refine zag ?_
           refine ⟨hx1_,?_⟩
           rw [zdp c1];simp only [c2,c3,c4,and_self,decide_true,Bool.true_and]
         refine ⟨hx1_,?_⟩
         rw [zdp c1];simp only [c4,decide_false,Bool.and_false,Bool.false_and]
       refine ⟨hx1_,?_⟩
       rw [zdp c1];simp only [c3,and_false,decide_false,Bool.false_and]
     refine ⟨hx1_,?_⟩
     rw [zdp c1];simp only [c2,false_and,decide_false,Bool.false_and]
   refine zag ?_
   refine br (fun c5=>?_) (fun c5=>?_)
   · refine zaa zeQ ?_
     refine zac ty3 (zbE hA2) (Ext.refl w1_) fun hI33=>?_
     refine zag ?_
     refine br (fun c6=>?_) (fun c6=>?_)
     · refine zaa zdO ?_
       refine zao ty9 (zbj hA2) (Ext.refl w1_) fun hS37=>?_
       refine (zgf ).mono ?_
       rintro _ w3_ ⟨hx3_,rfl⟩
       refine zcM (fun c7=>?_) (fun c7=>?_)
       · refine zaa zbL ?_
         refine zab zgI (zaJ hA2) hx3_ fun v42 h42=>?_
         have hln43:=zaf h42
         refine zae u76 h42 ?_
         refine zag ?_
         refine ⟨(hx1_.trans hx3_),?_⟩
         rw [zey c5];simp only [c6,c7,decide_true,Bool.true_and]
       refine ⟨(hx1_.trans hx3_),?_⟩
       rw [zey c5];simp only [c6,c7,decide_true,Bool.true_and,Bool.false_and]
     refine ⟨hx1_,?_⟩
     rw [zey c5];simp only [c6,decide_false,Bool.false_and]
   refine zag ?_
   refine br (fun c8=>?_) (fun c8=>?_)
   · refine zaa zbL ?_
     refine zab zgI (zaJ hA2) (Ext.refl w1_) fun v54 h54=>?_
     have hln55:=zaf h54
     refine zae u76 h54 ?_
     refine zaM ?_
     refine br (fun c9=>?_) (fun c9=>?_)
     · refine ⟨hx1_,?_⟩
       rw [za1 c1 c5];simp [show ¬t.kind=8 by omega,show ¬(t.kids.length:Int)=2 from c9]
     refine ⟨by simp,Ext.refl w1_,?_⟩
     split<;>omega
   refine zag ?_
   refine br (fun c10=>?_) (fun c10=>?_)
   · refine zaa zbL ?_
     refine zab zgI (zaJ hA2) (Ext.refl w1_) fun v54 h54=>?_
     have hln55:=zaf h54
     refine zae u76 h54 ?_
     refine zaM ?_
     refine br (fun c11=>?_) (fun c11=>?_)
     · refine ⟨hx1_,?_⟩
       rw [za1 c1 c5];simp [show ¬t.kind=8 by omega,show ¬(t.kids.length:Int)=2 from c11]
     refine ⟨by simp,Ext.refl w1_,?_⟩
     split<;>omega
   refine zag ?_
   refine br (fun c12=>?_) (fun c12=>?_)
   · refine zaa zbL ?_
     refine zab zgI (zaJ hA2) (Ext.refl w1_) fun v54 h54=>?_
     have hln55:=zaf h54
     refine zae u76 h54 ?_
     refine zaM ?_
     refine br (fun c13=>?_) (fun c13=>?_)
     · refine ⟨hx1_,?_⟩
       rw [za1 c1 c5];simp [show ¬t.kind=8 by omega,show ¬(t.kids.length:Int)=2 from c13]
     refine ⟨by simp,Ext.refl w1_,?_⟩
     split<;>omega
   refine zag ?_
   refine br (fun c14=>?_) (fun c14=>?_)
   · refine zaa zbL ?_
     refine zab zgI (zaJ hA2) (Ext.refl w1_) fun v54 h54=>?_
     have hln55:=zaf h54
     refine zae u76 h54 ?_
     refine zaM ?_
     refine br (fun c15=>?_) (fun c15=>?_)
     · refine ⟨hx1_,?_⟩
       rw [za1 c1 c5];simp [show ¬t.kind=8 by omega,show ¬(t.kids.length:Int)=2 from c15]
     refine ⟨by simp,Ext.refl w1_,?_⟩
     split<;>omega
   refine zag ?_
   refine br (fun c16=>?_) (fun c16=>?_)
   · refine zaa zbL ?_
     refine zab zgI (zaJ hA2) (Ext.refl w1_) fun v54 h54=>?_
     have hln55:=zaf h54
     refine zae u76 h54 ?_
     refine zaM ?_
     refine br (fun c17=>?_) (fun c17=>?_)
     · refine ⟨hx1_,?_⟩
       rw [za1 c1 c5];simp [show ¬t.kind=8 by omega,show ¬(t.kids.length:Int)=2 from c17]
     refine ⟨by simp,Ext.refl w1_,?_⟩
     split<;>omega
   refine zag ?_
   refine br (fun c18=>?_) (fun c18=>?_)
   · refine zaa zbL ?_
     refine zab zgI (zaJ hA2) (Ext.refl w1_) fun v54 h54=>?_
     have hln55:=zaf h54
     refine zae u76 h54 ?_
     refine zaM ?_
     refine br (fun c19=>?_) (fun c19=>?_)
     · refine ⟨hx1_,?_⟩
       rw [za1 c1 c5];simp [show ¬t.kind=8 by omega,show ¬(t.kids.length:Int)=2 from c19]
     refine ⟨by simp,Ext.refl w1_,?_⟩
     split<;>omega
   refine zag ?_
   refine br (fun c20=>?_) (fun c20=>?_)
   · refine zaa zbL ?_
     refine zab zgI (zaJ hA2) (Ext.refl w1_) fun v60 h60=>?_
     have hln61:=zaf h60
     refine zae u76 h60 ?_
     refine zaM ?_
     refine br (fun c21=>?_) (fun c21=>?_)
     · refine ⟨hx1_,?_⟩
       rw [za1 c1 c5];simp [c20,show ¬(t.kids.length:Int)=1 from c21]
     refine ⟨by simp,Ext.refl w1_,?_⟩
     split<;>omega
   refine ⟨hx1_,?_⟩
   rw [za1 c1 c5];simp [show ¬(3≤t.kind∧t.kind≤9) by omega]
 rintro uj18 w2_ ⟨hu,hx3_,hk1,hk2,hk3⟩
 simp only [List.map_cons,List.map_nil,List.cons.injEq,and_true] at hu
 clear hu
 refine zaa zeQ ?_
 refine zac ty3 (zbE hA2) hx3_ fun hI64=>?_
 refine zaM ?_
 refine br (fun c22=>?_) (fun c22=>?_)
 · refine ⟨(hx1_.trans hx3_),?_⟩
   rw [za1 (by omega) (by omega)];simp [c22]
 refine zaa zdO ?_
 refine zao ty9 (zbj hA2) hx3_ fun hS68=>?_
 refine zjF ?_
 refine br (fun c23=>?_) (fun c23=>?_)
 · refine ⟨(hx1_.trans hx3_),?_⟩
   rw [za1 (by omega) (by omega)];simp [c23]
 refine zag ?_
 refine br (fun c24=>?_) (fun c24=>?_)
 · refine ⟨(hx1_.trans hx3_),?_⟩
   rw [za1 (by omega) (by omega)];simp [show n=0 by omega]
 refine zaa zbL ?_
 refine zab zgI (zaJ hA2) hx3_ fun v76 h76=>?_
 have hln77:=zaf h76
 refine zae u76 h76 ?_
 refine zaE (t.kids.length) (fun k us w'=>us=[.int .i64 (k:Int)]∧Ext w2_ w'∧((t.kids.take k).all (zaQ (n-1))=true)) (0) (by omega) ⟨by simp,Ext.refl w2_,by simp⟩ ?_
 rintro k m21 uu21 w4_ hk21 ⟨hu,hx4_,hinv⟩
 simp only [List.map_cons,List.map_nil,List.cons.injEq,and_true] at hu
 try rw [hu]
 try clear hu
 refine zai ?_
 refine br (fun c25=>?_) (fun c25=>?_)
 · refine zad u76 zcs h76 (by omega) fun b80 o80 h80=>?_
   refine zab zcs h80 (hx3_.trans hx4_) fun v81 h81=>?_
   refine zeY zsX rfl zcs rfl h81 (hx3_.trans hx4_) fun w5_ hx5_ hA6 hV6=>?_
   refine zan hV6 (Ext.refl w5_) ?_
   refine za2 (by unfold I64;omega) ?_
   refine (ih (n-1) (by omega) h81 (hx3_.trans (hx4_.trans hx5_)) (by omega)).mono ?_
   rintro _ w6_ ⟨hx6_,rfl⟩
   refine zbs ?_
   refine zcM (fun c26=>?_) (fun c26=>?_)
   · refine ⟨(hx1_.trans (hx3_.trans (hx4_.trans (hx5_.trans hx6_)))),?_⟩
     rw [za1 (by omega) (by omega)]
     obtain ⟨m,rfl⟩:∃ m,n=m+1:=⟨n-1,by omega⟩
     rw [Bool.not_eq_true',Nat.add_sub_cancel] at c26
     simp only [zgi (by omega) c26,Bool.and_false]
   have hln:=zaf h76
   refine zah (by omega) ?_
   refine ⟨m21-1,by omega,k+1,by omega,by simp,(hx4_.trans (hx5_.trans hx6_)),?_⟩
   exact zhF (by omega) hinv (by simpa using c26)
 refine ⟨(hx1_.trans (hx3_.trans hx4_)),?_⟩
 rw [za1 (by omega) (by omega)]
 obtain ⟨m,rfl⟩:∃ m,n=m+1:=⟨n-1,by omega⟩
 rw [Nat.add_sub_cancel] at hinv
 simp only [show 3≤t.kind∧t.kind≤9 from ⟨hk1,hk2⟩,Decidable.not_not.1 c22,Decidable.not_not.1 c23,hk3,zhG (by omega) hinv,and_self,decide_true,Bool.and_self]
theorem zh8:∀ (n:Nat),n≤6→ztJ 262 n
 | n,hn=>by intro h e hd;exact zjU h e hd (fun m hm=>zh8 m (by omega)) hn
def F207 (a0:Value) (w:World) (R:VW):Prop:=
 oP (Instr.box 78 a0) w fun x1 w=>
 rL 78 x1 w fun x3=>
 cL 262 [x3,(iV 6)] w fun x4 w=>
 R x4 w
def cfg207:Cfg:=⟨extL,[],[],[],[],[],[]⟩
theorem F207_call {a0:Value} {w:World} {R:VW} (h:F207 a0 w R):cL 207 [a0] w R:=co (g:=cfg207) Tryz.func207 (by kernel_rfl) (by kernel_rfl) (by kernel_rfl) h
theorem zez {w:World} {v0:Value} {W0:World} {t:DTerm}  (h0:Is W0 v0 t) (e0:Ext W0 w)  :
   CALL Tryz.prog 207 [v0] w fun r w'=>Ext w w'∧(r=.bool (zaQ 6 t)):=by
 refine F207_call ?_
 unfold F207
 refine zal zcs rfl h0 e0 fun w1_ hx1_ hA1 hV1=>?_
 refine zan hV1 (Ext.refl w1_) ?_
 refine ((zh8 6 (by omega)) h0 (e0.trans hx1_) rfl).mono ?_
 rintro _ w2_ ⟨hx2_,rfl⟩
 refine ⟨(hx1_.trans hx2_),?_⟩
 rfl
def F258 (a0 a1:Value) (w:World) (R:VW):Prop:=
 oP (Instr.box 78 a0) w fun x2 w=>
 rF 78 x2 0 w fun x7=>
 rL 3 x7 w fun x8=>
 rB .eql 3 T0 U0 x8 (iV 1) w fun x10=>
 BR x10
 (rF 78 x2 1 w fun x11=>
 rL 3 x11 w fun x12=>
 cL 65 [x12,(iV 0),(iV 1000000000)] w fun x13 w=>
 BR x13
 (rF 78 x2 2 w fun x15=>
 rL 9 x15 w fun x16=>
 rB .eql 9 T0 U0 x16 (Value.string (ByteArray.mk #[])) w fun x17=>
 BR x17
 (rF 78 x2 3 w fun x20=>
 rL 76 x20 w fun x21=>
 rN 76 3 x21 w fun x22=>
 rB .eql 3 T0 U0 x22 (iV 0) w fun x23=>
 R x23 w)
 (R (Value.bool false) w))
 (R (Value.bool false) w))
 (rB .eql 3 T0 U0 x8 (iV 2) w fun x26=>
 BR x26
 (rF 78 x2 1 w fun x27=>
 rL 3 x27 w fun x28=>
 rB .eql 3 T0 U0 x28 (iV 0) w fun x29=>
 BR x29
 (rF 78 x2 2 w fun x31=>
 rL 9 x31 w fun x32=>
 cL 253 [x32] w fun x33 w=>
 BR x33
 (rF 78 x2 3 w fun x36=>
 rL 76 x36 w fun x37=>
 rN 76 3 x37 w fun x38=>
 rB .eql 3 T0 U0 x38 (iV 0) w fun x39=>
 R x39 w)
 (R (Value.bool false) w))
 (R (Value.bool false) w))
 (JOIN [5] (fun J9=>
 rF 78 x2 0 w fun x41=>
 rL 3 x41 w fun x42=>
 rB .eql 3 T0 U0 x42 (iV 8) w fun x43=>
 BR x43
 (J9 [(iV 1)] w)
 (J9 [(iV 2)] w)) (fun u9 w=>
 rF 78 x2 0 w fun x44=>
 rL 3 x44 w fun x45=>
 cL 65 [x45,(iV 3),(iV 9)] w fun x46 w=>
 rD (Op.unary .not x46) w fun x47=>
 BR x47
 (R (Value.bool false) w)
 (rF 78 x2 1 w fun x49=>
 rL 3 x49 w fun x50=>
 rB .neq 3 T0 U0 x50 (iV 0) w fun x51=>
 BR x51
 (R (Value.bool false) w)
 (rF 78 x2 2 w fun x54=>
 rL 9 x54 w fun x55=>
 rB .neq 9 T0 U0 x55 (Value.string (ByteArray.mk #[])) w fun x56=>
 BR x56
 (R (Value.bool false) w)
 (rF 78 x2 3 w fun x59=>
 rL 76 x59 w fun x60=>
 rN 76 3 x60 w fun x61=>
 rB .neq 3 T0 T0 x61 (u9 5) w fun x63=>
 BR x63
 (R (Value.bool false) w)
 (rB .eql 3 T0 U0 a1 (iV 0) w fun x67=>
 BR x67
 (R (Value.bool false) w)
 (LOOPI [6] [(iV 0)] w fun u12 w next12=>
 rF 78 x2 3 w fun x70=>
 rL 76 x70 w fun x71=>
 rN 76 3 x71 w fun x72=>
 rC (u12 6) x72 w fun x73=>
 BR x73
 (rF 78 x2 3 w fun x76=>
 rL 76 x76 w fun x77=>
 rX 76 x77 (u12 6) w fun x79=>
 rL 78 x79 w fun x80=>
 rB .sub 3 T0 U0 a1 (iV 1) w fun x82=>
 cL 258 [x80,x82] w fun x83 w=>
 rD (Op.unary .not x83) w fun x84=>
 BR x84
 (R (Value.bool false) w)
 (rA (u12 6) (iV 1) w fun x75=>
 next12 [x75] w))
 (R (Value.bool true) w)))))))))
def cfg258:Cfg:=⟨extL,[(9,15393162788896,[5])],[(12,38685035931857774884946000,[6])],[],[],[],[]⟩
theorem F258_call {a0 a1:Value} {w:World} {R:VW} (h:F258 a0 a1 w R):cL 258 [a0,a1] w R:=co (g:=cfg258) Tryz.func258 (by kernel_rfl) (by kernel_rfl) (by kernel_rfl) h
theorem zjV {w:World} {v0:Value} {W0:World} {t:DTerm} {d:Int} {n:Nat} (h0:Is W0 v0 t) (e0:Ext W0 w) (hd:d=(n:Int)) (ih:∀ m,m+1=n→ztJ 258 m) (hn:n≤6) :
   CALL Tryz.prog 258 [v0,.int .i64 d] w fun r w'=>Ext w w'∧(r=.bool (zaQ n t)):=by
 refine F258_call ?_
 unfold F258
 refine zal zcs rfl h0 e0 fun w1_ hx1_ hA2 hV2=>?_
 refine zaa zd7 ?_
 refine zac ty3 (zbu hA2) (Ext.refl w1_) fun hI8=>?_
 refine zag ?_
 refine br (fun c1=>?_) (fun c1=>?_)
 · refine zaa zeQ ?_
   refine zac ty3 (zbE hA2) (Ext.refl w1_) fun hI12=>?_
   refine (zcw ).mono ?_
   rintro _ w2_ ⟨hx2_,rfl⟩
   refine br (fun c2=>?_) (fun c2=>?_)
   · refine zaa zdO ?_
     refine zao ty9 (zbj hA2) hx2_ fun hS16=>?_
     refine zay ?_
     refine br (fun c3=>?_) (fun c3=>?_)
     · refine zaa zbL ?_
       refine zab zgI (zaJ hA2) hx2_ fun v21 h21=>?_
       have hln22:=zaf h21
       refine zae u76 h21 ?_
       refine zag ?_
       refine ⟨(hx1_.trans hx2_),?_⟩
       rw [zdp c1];simp only [c2,c3,and_self,decide_true,Bool.true_and]
     refine ⟨(hx1_.trans hx2_),?_⟩
     rw [zdp c1];simp only [c3,decide_false,Bool.and_false,Bool.false_and]
   refine ⟨(hx1_.trans hx2_),?_⟩
   rw [zdp c1];simp only [c2,decide_false,Bool.false_and]
 refine zag ?_
 refine br (fun c4=>?_) (fun c4=>?_)
 · refine zaa zeQ ?_
   refine zac ty3 (zbE hA2) (Ext.refl w1_) fun hI28=>?_
   refine zag ?_
   refine br (fun c5=>?_) (fun c5=>?_)
   · refine zaa zdO ?_
     refine zao ty9 (zbj hA2) (Ext.refl w1_) fun hS32=>?_
     refine (specIsName_ok ).mono ?_
     rintro _ w3_ ⟨hx3_,rfl⟩
     refine zcM (fun c6=>?_) (fun c6=>?_)
     · refine zaa zbL ?_
       refine zab zgI (zaJ hA2) hx3_ fun v37 h37=>?_
       have hln38:=zaf h37
       refine zae u76 h37 ?_
       refine zag ?_
       refine ⟨(hx1_.trans hx3_),?_⟩
       rw [zey c4];simp only [c5,c6,decide_true,Bool.true_and]
     refine ⟨(hx1_.trans hx3_),?_⟩
     rw [zey c4];simp only [c5,c6,decide_true,Bool.true_and,Bool.false_and]
   refine ⟨hx1_,?_⟩
   rw [zey c4];simp only [c5,decide_false,Bool.false_and]
 refine JOIN.mk (fun us w'=>us=[.int .i64 (if t.kind=8 then 1 else 2)]∧Ext w1_ w'∧(True)) ?_ ?_
 · refine zaa zd7 ?_
   refine zac ty3 (zbu hA2) (Ext.refl w1_) fun hI42=>?_
   refine zag ?_
   refine br (fun c7=>?_) (fun c7=>?_)
   · refine ⟨by rw [if_pos c7],Ext.refl w1_,?_⟩
     trivial
   refine ⟨by rw [if_neg c7],Ext.refl w1_,?_⟩
   trivial
 rintro uj9 w4_ ⟨hu,hx4_,hinv⟩
 simp only [List.map_cons,List.map_nil,List.cons.injEq,and_true] at hu
 try rw [hu]
 try clear hu
 refine zaa zd7 ?_
 refine zac ty3 (zbu hA2) hx4_ fun hI45=>?_
 refine (zcw ).mono ?_
 rintro _ w5_ ⟨hx5_,rfl⟩
 refine zas ?_
 refine br (fun c8=>?_) (fun c8=>?_)
 · refine ⟨(hx1_.trans (hx4_.trans hx5_)),?_⟩
   rw [za1 c1 c4];simp only [c8,decide_false,Bool.false_and]
 refine zaa zeQ ?_
 refine zac ty3 (zbE hA2) (hx4_.trans hx5_) fun hI50=>?_
 refine zaM ?_
 refine br (fun c9=>?_) (fun c9=>?_)
 · refine ⟨(hx1_.trans (hx4_.trans hx5_)),?_⟩
   rw [za1 c1 c4];simp only [show ¬t.num=0 from c9,decide_false,Bool.false_and,Bool.and_false]
 refine zaa zdO ?_
 refine zao ty9 (zbj hA2) (hx4_.trans hx5_) fun hS55=>?_
 refine zjF ?_
 refine br (fun c10=>?_) (fun c10=>?_)
 · refine ⟨(hx1_.trans (hx4_.trans hx5_)),?_⟩
   rw [za1 c1 c4];simp only [show ¬t.name=_ from c10,decide_false,Bool.false_and,Bool.and_false]
 refine zaa zbL ?_
 refine zab zgI (zaJ hA2) (hx4_.trans hx5_) fun v60 h60=>?_
 have hln61:=zaf h60
 refine zae u76 h60 ?_
 refine zaM ?_
 refine br (fun c11=>?_) (fun c11=>?_)
 · refine ⟨(hx1_.trans (hx4_.trans hx5_)),?_⟩
   rw [za1 c1 c4];simp only [show ¬(t.kids.length:Int)=_ from c11,decide_false,Bool.false_and,Bool.and_false]
 refine zag ?_
 refine br (fun c12=>?_) (fun c12=>?_)
 · refine ⟨(hx1_.trans (hx4_.trans hx5_)),?_⟩
   rw [za1 c1 c4];simp [show n=0 by omega]
 refine zaE (t.kids.length) (fun k us w'=>us=[.int .i64 (k:Int)]∧Ext w5_ w'∧((t.kids.take k).all (zaQ (n-1))=true)) (0) (by omega) ⟨by simp,Ext.refl w5_,by simp⟩ ?_
 rintro k m12 uu12 w6_ hk12 ⟨hu,hx6_,hinv⟩
 simp only [List.map_cons,List.map_nil,List.cons.injEq,and_true] at hu
 try rw [hu]
 try clear hu
 refine zaa zbL ?_
 refine zab zgI (zaJ hA2) (hx4_.trans (hx5_.trans hx6_)) fun v71 h71=>?_
 have hln72:=zaf h71
 refine zae u76 h71 ?_
 refine zai ?_
 refine br (fun c13=>?_) (fun c13=>?_)
 · refine zaa zbL ?_
   refine zab zgI (zaJ hA2) (hx4_.trans (hx5_.trans hx6_)) fun v77 h77=>?_
   refine zad u76 zcs h77 (by omega) fun b79 o79 h79=>?_
   refine zab zcs h79 (hx4_.trans (hx5_.trans hx6_)) fun v80 h80=>?_
   refine za2 (by unfold I64;omega) ?_
   refine (ih (n-1) (by omega) h80 (hx4_.trans (hx5_.trans hx6_)) (by omega)).mono ?_
   rintro _ w7_ ⟨hx7_,rfl⟩
   refine zbs ?_
   refine zcM (fun c14=>?_) (fun c14=>?_)
   · refine ⟨(hx1_.trans (hx4_.trans (hx5_.trans (hx6_.trans hx7_)))),?_⟩
     rw [za1 c1 c4]
     obtain ⟨m,rfl⟩:∃ m,n=m+1:=⟨n-1,by omega⟩
     rw [Bool.not_eq_true',Nat.add_sub_cancel] at c14
     simp only [zgi (by omega) c14,Bool.and_false]
   have hln:=zaf h71
   refine zah (by omega) ?_
   refine ⟨m12-1,by omega,k+1,by omega,by simp,(hx6_.trans hx7_),?_⟩
   exact zhF (by omega) hinv (by simpa using c14)
 refine ⟨(hx1_.trans (hx4_.trans (hx5_.trans hx6_))),?_⟩
 rw [za1 c1 c4]
 obtain ⟨m,rfl⟩:∃ m,n=m+1:=⟨n-1,by omega⟩
 rw [Nat.add_sub_cancel] at hinv
 simp only [Decidable.not_not.1 c8,Decidable.not_not.1 c9,Decidable.not_not.1 c10,Decidable.not_not.1 c11,zhG (by omega) hinv,and_self,decide_true,Bool.and_self]
theorem zh9:∀ (n:Nat),n≤6→ztJ 258 n
 | n,hn=>by intro h e hd;exact zjV h e hd (fun m hm=>zh9 m (by omega)) hn
def F194 (a0:Value) (w:World) (R:VW):Prop:=
 oP (Instr.box 78 a0) w fun x1 w=>
 rL 78 x1 w fun x3=>
 cL 258 [x3,(iV 6)] w fun x4 w=>
 R x4 w
def cfg194:Cfg:=⟨extL,[],[],[],[],[],[]⟩
theorem F194_call {a0:Value} {w:World} {R:VW} (h:F194 a0 w R):cL 194 [a0] w R:=co (g:=cfg194) Tryz.func194 (by kernel_rfl) (by kernel_rfl) (by kernel_rfl) h
theorem zbZ {w:World} {v0:Value} {W0:World} {t:DTerm}  (h0:Is W0 v0 t) (e0:Ext W0 w)  :
   CALL Tryz.prog 194 [v0] w fun r w'=>Ext w w'∧(r=.bool (zaQ 6 t)):=by
 refine F194_call ?_
 unfold F194
 refine zal zcs rfl h0 e0 fun w1_ hx1_ hA1 hV1=>?_
 refine zan hV1 (Ext.refl w1_) ?_
 refine ((zh9 6 (by omega)) h0 (e0.trans hx1_) rfl).mono ?_
 rintro _ w2_ ⟨hx2_,rfl⟩
 refine ⟨(hx1_.trans hx2_),?_⟩
 rfl
def term0:DTerm:=.mk 0 0 (ByteArray.mk #[]) []
def F208 (a0:Value) (w:World) (R:VW):Prop:=
 oP (Instr.box 78 a0) w fun x1 w=>
 rF 78 x1 0 w fun x3=>
 rL 3 x3 w fun x4=>
 rB .eql 3 T0 U0 x4 (iV 0) w fun x5=>
 BR x5
 (rF 78 x1 1 w fun x7=>
 rL 3 x7 w fun x8=>
 rB .eql 3 T0 U0 x8 (iV 0) w fun x9=>
 BR x9
 (rF 78 x1 2 w fun x12=>
 rL 9 x12 w fun x13=>
 rB .eql 9 T0 U0 x13 (Value.string (ByteArray.mk #[])) w fun x14=>
 BR x14
 (rF 78 x1 3 w fun x17=>
 rL 76 x17 w fun x18=>
 rN 76 3 x18 w fun x19=>
 rB .eql 3 T0 U0 x19 (iV 0) w fun x20=>
 R x20 w)
 (R (Value.bool false) w))
 (R (Value.bool false) w))
 (R (Value.bool false) w)
def cfg208:Cfg:=⟨extL,[],[],[],[],[],[]⟩
theorem F208_call {a0:Value} {w:World} {R:VW} (h:F208 a0 w R):cL 208 [a0] w R:=co (g:=cfg208) Tryz.func208 (by kernel_rfl) (by kernel_rfl) (by kernel_rfl) h
theorem zjW {w:World} {v0:Value} {W0:World} {t:DTerm}  (h0:Is W0 v0 t) (e0:Ext W0 w)  :
   CALL Tryz.prog 208 [v0] w fun r w'=>Ext w w'∧(r=.bool (decide (t=term0))):=by
 refine F208_call ?_
 unfold F208
 refine zal zcs rfl h0 e0 fun w1_ hx1_ hA1 hV1=>?_
 refine zaa zd7 ?_
 refine zac ty3 (zbu hA1) (Ext.refl w1_) fun hI4=>?_
 refine zag ?_
 refine br (fun c1=>?_) (fun c1=>?_)
 · refine zaa zeQ ?_
   refine zac ty3 (zbE hA1) (Ext.refl w1_) fun hI8=>?_
   refine zag ?_
   refine br (fun c2=>?_) (fun c2=>?_)
   · refine zaa zdO ?_
     refine zao ty9 (zbj hA1) (Ext.refl w1_) fun hS13=>?_
     refine zay ?_
     refine br (fun c3=>?_) (fun c3=>?_)
     · refine zaa zbL ?_
       refine zab zgI (zaJ hA1) (Ext.refl w1_) fun v18 h18=>?_
       have hln19:=zaf h18
       refine zae u76 h18 ?_
       refine zag ?_
       refine ⟨hx1_,?_⟩
       congr 1
       rw [decide_eq_decide,DTerm.ext_iff]
       exact ⟨fun h=>⟨c1,c2,c3,List.eq_nil_of_length_eq_zero (by omega)⟩,fun h=>by rw [h.2.2.2];rfl⟩
     refine ⟨hx1_,?_⟩
     have:t≠term0:=fun e=>c3 (by rw [e];rfl)
     simp [this]
   refine ⟨hx1_,?_⟩
   have:t≠term0:=fun e=>c2 (by rw [e];rfl)
   simp [this]
 refine ⟨hx1_,?_⟩
 have:t≠term0:=fun e=>c1 (by rw [e];rfl)
 simp [this]
def F226 (a0 a1:Value) (w:World) (R:VW):Prop:=
 oP (Instr.box 78 a0) w fun x2 w=>
 oP (Instr.box 78 a1) w fun x3 w=>
 rF 78 x2 0 w fun x6=>
 rL 3 x6 w fun x7=>
 rF 78 x3 0 w fun x8=>
 rL 3 x8 w fun x9=>
 rB .neq 3 T0 T0 x7 x9 w fun x10=>
 BR x10
 (R (Value.bool false) w)
 (rF 78 x2 1 w fun x12=>
 rL 3 x12 w fun x13=>
 rF 78 x3 1 w fun x14=>
 rL 3 x14 w fun x15=>
 rB .neq 3 T0 T0 x13 x15 w fun x16=>
 BR x16
 (R (Value.bool false) w)
 (rF 78 x2 2 w fun x19=>
 rL 9 x19 w fun x20=>
 rF 78 x3 2 w fun x21=>
 rL 9 x21 w fun x22=>
 rB .neq 9 T0 T0 x20 x22 w fun x23=>
 BR x23
 (R (Value.bool false) w)
 (rF 78 x2 3 w fun x26=>
 rL 76 x26 w fun x27=>
 rN 76 3 x27 w fun x28=>
 rF 78 x3 3 w fun x29=>
 rL 76 x29 w fun x30=>
 rN 76 3 x30 w fun x31=>
 rB .neq 3 T0 T0 x28 x31 w fun x32=>
 BR x32
 (R (Value.bool false) w)
 (LOOPI [5] [(iV 0)] w fun u4 w next4=>
 rF 78 x2 3 w fun x35=>
 rL 76 x35 w fun x36=>
 rN 76 3 x36 w fun x37=>
 rC (u4 5) x37 w fun x38=>
 BR x38
 ((fun w=>rF 78 x2 3 w fun x41=>
 rL 76 x41 w fun x42=>
 rX 76 x42 (u4 5) w fun x44=>
 rL 78 x44 w fun x45=>
 rF 78 x3 3 w fun x46=>
 rL 76 x46 w fun x47=>
 rX 76 x47 (u4 5) w fun x49=>
 rL 78 x49 w fun x50=>
 cL 226 [x45,x50] w fun x51 w=>
 rD (Op.unary .not x51) w fun x52=>
 BR x52
 (R (Value.bool false) w)
 (rA (u4 5) (iV 1) w fun x40=>
 next4 [x40] w)) (World.drew1 w))
 (R (Value.bool true) w)))))
def cfg226:Cfg:=⟨extL,[],[(4,9007182074871856,[5])],[(6,[0,1,2,3,4,5,6,7,8,9,10,11],0)],[],[],[]⟩
theorem F226_call {a0 a1:Value} {w:World} {R:VW} (h:F226 a0 a1 w R):cL 226 [a0,a1] w R:=co (g:=cfg226) Tryz.func226 (by kernel_rfl) (by kernel_rfl) (by kernel_rfl) h
theorem zhr {w:World} {v0:Value} {W0:World} {t:DTerm} {v1:Value} {W1:World} {t2:DTerm}  (h0:Is W0 v0 t) (e0:Ext W0 w) (h1:Is W1 v1 t2) (e1:Ext W1 w) (ht:t2=term0) :
   CALL Tryz.prog 226 [v0,v1] w fun r w'=>Ext w w'∧(r=.bool (decide (t=term0))):=by
 refine F226_call ?_
 unfold F226
 subst ht
 refine zal zcs rfl h0 e0 fun w1_ hx1_ hA2 hV2=>?_
 refine zal zcs rfl h1 (e1.trans hx1_) fun w2_ hx2_ hA3 hV3=>?_
 refine zaa zd7 ?_
 refine zac ty3 (zbu hA2) hx2_ fun hI7=>?_
 refine zaa zd7 ?_
 refine zac ty3 (zbu hA3) (Ext.refl w2_) fun hI9=>?_
 refine zaM ?_
 refine br (fun c1=>?_) (fun c1=>?_)
 · refine ⟨(hx1_.trans hx2_),?_⟩
   have:t≠term0:=fun e=>c1 (by rw [e])
   simp [this]
 refine zaa zeQ ?_
 refine zac ty3 (zbE hA2) hx2_ fun hI13=>?_
 refine zaa zeQ ?_
 refine zac ty3 (zbE hA3) (Ext.refl w2_) fun hI15=>?_
 refine zaM ?_
 refine br (fun c2=>?_) (fun c2=>?_)
 · refine ⟨(hx1_.trans hx2_),?_⟩
   have:t≠term0:=fun e=>c2 (by rw [e])
   simp [this]
 refine zaa zdO ?_
 refine zao ty9 (zbj hA2) hx2_ fun hS20=>?_
 refine zaa zdO ?_
 refine zao ty9 (zbj hA3) (Ext.refl w2_) fun hS22=>?_
 refine zjF ?_
 refine br (fun c3=>?_) (fun c3=>?_)
 · refine ⟨(hx1_.trans hx2_),?_⟩
   have:t≠term0:=fun e=>c3 (by rw [e])
   simp [this]
 refine zaa zbL ?_
 refine zab zgI (zaJ hA2) hx2_ fun v27 h27=>?_
 have hln28:=zaf h27
 refine zae u76 h27 ?_
 refine zaa zbL ?_
 refine zab zgI (zaJ hA3) (Ext.refl w2_) fun v30 h30=>?_
 have hln31:=zaf h30
 refine zae u76 h30 ?_
 refine zaM ?_
 refine br (fun c4=>?_) (fun c4=>?_)
 · refine ⟨(hx1_.trans hx2_),?_⟩
   have:t≠term0:=fun e=>c4 (by rw [e])
   simp [this]
 refine zaE (0) (fun k us w'=>us=[.int .i64 (k:Int)]∧Ext w2_ w'∧(True)) (0) (by omega) ⟨by simp,Ext.refl w2_,trivial⟩ ?_
 rintro k m4 uu4 w3_ hk4 ⟨hu,hx3_,hinv⟩
 simp only [List.map_cons,List.map_nil,List.cons.injEq,and_true] at hu
 try rw [hu]
 try clear hu
 refine zaa zbL ?_
 refine zab zgI (zaJ hA2) (hx2_.trans hx3_) fun v36 h36=>?_
 have hln37:=zaf h36
 refine zae u76 h36 ?_
 refine zai ?_
 refine br (fun c5=>?_) (fun c5=>?_)
 · have hx4_:=zaj w3_
   exact absurd c5 (by have:(term0.kids.length:Int)=0:=rfl;omega)
 refine ⟨(hx1_.trans (hx2_.trans hx3_)),?_⟩
 have:t=term0:=DTerm.ext_iff.2 ⟨Decidable.not_not.1 c1,Decidable.not_not.1 c2,Decidable.not_not.1 c3,List.eq_nil_of_length_eq_zero (by have:(term0.kids.length:Int)=0:=rfl;omega)⟩
 simp [this]
def plc (s:ByteArray):List ByteArray→Int
 | []=>-1
 | x :: l=>if x=s then 0 else if plc s l<0 then -1 else plc s l+1
theorem zhH {s:ByteArray} {l:List ByteArray} (h:s∉l):plc s l=-1:=by
 induction l with
 | nil=>rfl
 | cons x l ih=>
   simp only [List.mem_cons,not_or] at h
   rw [plc,if_neg (fun e=>h.1 e.symm),ih h.2];rfl
theorem zje {s:ByteArray}:∀ {l:List ByteArray} {k:Nat} (hk:k<l.length),s∉l.take k→l[k]=s→plc s l=k
 | x :: l,0,_,_,h=>by simp only [List.getElem_cons_zero] at h;rw [plc,if_pos h];rfl
 | x :: l,k+1,hk,hn,h=>by
   simp only [List.take_succ_cons,List.mem_cons,not_or] at hn
   have ih:=zje (by simpa using hk) hn.2 (by simpa using h)
   rw [plc,if_neg (fun e=>hn.1 e.symm),ih,if_neg (by omega)]
   omega
theorem zia {s:ByteArray} {l:List ByteArray}:-1≤plc s l∧plc s l<l.length:=by
 induction l with
 | nil=>simp [plc]
 | cons x l ih=>
   rw [plc]
   split
   · simp only [List.length_cons];omega
   split<;>simp only [List.length_cons]<;>omega
theorem zdZ {s:ByteArray} {l:List ByteArray}:0≤plc s l↔s∈l:=by
 induction l with
 | nil=>simp [plc]
 | cons x l ih=>
   rw [plc]
   split
   · rename_i h;simp [h]
   rename_i h
   rw [List.mem_cons,←ih]
   have:¬s=x:=fun e=>h e.symm
   simp only [this,false_or]
   split<;>omega
theorem zb6 {l:List ByteArray} {k:Nat} {y:ByteArray} (hk:k<l.length) (h:y∉l.take k) (c:¬l[k]=y):y∉l.take (k+1):=by
 rw [List.take_succ_eq_append_getElem hk]
 simp only [List.mem_append,List.mem_cons,List.not_mem_nil,or_false,not_or]
 exact ⟨h,fun e=>c e.symm⟩
def F192 (a0 a1:Value) (w:World) (R:VW):Prop:=
 LOOPI [5] [(iV 0)] w fun u2 w next2=>
 rN 24 3 a0 w fun x8=>
 rC (u2 5) x8 w fun x9=>
 BR x9
 (rX 24 a0 (u2 5) w fun x14=>
 rL 9 x14 w fun x15=>
 rB .eql 9 T0 T0 x15 a1 w fun x17=>
 BR x17
 (R (u2 5) w)
 (rA (u2 5) (iV 1) w fun x11=>
 next2 [x11] w))
 (R (iV (-1)) w)
def cfg192:Cfg:=⟨extL,[],[(2,524272,[5])],[],[],[],[]⟩
theorem F192_call {a0 a1:Value} {w:World} {R:VW} (h:F192 a0 a1 w R):cL 192 [a0,a1] w R:=co (g:=cfg192) Tryz.func192 (by kernel_rfl) (by kernel_rfl) (by kernel_rfl) h
theorem zbJ {w:World} {v0:Value} {W0:World} {l:(List ByteArray)} {s:ByteArray}  (h0:Is W0 v0 l) (e0:Ext W0 w)  :
   CALL Tryz.prog 192 [v0,.string s] w fun r w'=>Ext w w'∧(r=.int .i64 (plc s l)):=by
 refine F192_call ?_
 unfold F192
 refine zaE (l.length) (fun k us w'=>us=[.int .i64 (k:Int)]∧Ext w w'∧(s∉l.take k)) (0) (by omega) ⟨by simp,Ext.refl w,by simp⟩ ?_
 rintro k m2 uu2 w1_ hk2 ⟨hu,hx1_,hinv⟩
 simp only [List.map_cons,List.map_nil,List.cons.injEq,and_true] at hu
 try rw [hu]
 try clear hu
 have hln8:=zaf h0
 refine zae u24 h0 ?_
 refine zai ?_
 refine br (fun c1=>?_) (fun c1=>?_)
 · refine zad u24 ty9 h0 (by omega) fun b14 o14 h14=>?_
   refine zao ty9 h14 (e0.trans hx1_) fun hS15=>?_
   refine zay ?_
   refine br (fun c2=>?_) (fun c2=>?_)
   · refine ⟨hx1_,?_⟩
     rw [zje (by omega) hinv c2]
   refine zah (by omega) ?_
   refine ⟨m2-1,by omega,k+1,by omega,by simp,hx1_,?_⟩
   exact zb6 (by omega) hinv c2
 refine ⟨hx1_,?_⟩
 rw [List.take_of_length_le (by omega)] at hinv
 rw [zhH hinv]
def F155 (a0 a1:Value) (w:World) (R:VW):Prop:=
 rN 24 3 a0 w fun x7=>
 LOOPI [8] [(iV 0)] w fun u2 w next2=>
 rC (u2 8) x7 w fun x9=>
 BR x9
 (rX 24 a0 (u2 8) w fun x14=>
 rL 9 x14 w fun x15=>
 rB .eql 9 T0 T0 a1 x15 w fun x16=>
 BR x16
 (R (u2 8) w)
 (rA (u2 8) (iV 1) w fun x18=>
 next2 [x18] w))
 (R (iV (-1)) w)
def cfg155:Cfg:=⟨extL,[],[(2,524080,[8])],[],[],[],[]⟩
theorem F155_call {a0 a1:Value} {w:World} {R:VW} (h:F155 a0 a1 w R):cL 155 [a0,a1] w R:=co (g:=cfg155) Tryz.func155 (by kernel_rfl) (by kernel_rfl) (by kernel_rfl) h
theorem zma {w:World} {v0:Value} {W0:World} {l:(List ByteArray)} {s:ByteArray}  (h0:Is W0 v0 l) (e0:Ext W0 w)  :
   CALL Tryz.prog 155 [v0,.string s] w fun r w'=>Ext w w'∧(r=.int .i64 (plc s l)):=by
 refine F155_call ?_
 unfold F155
 have hln7:=zaf h0
 refine zae u24 h0 ?_
 refine zaE (l.length) (fun k us w'=>us=[.int .i64 (k:Int)]∧Ext w w'∧(s∉l.take k)) (0) (by omega) ⟨by simp,Ext.refl w,by simp⟩ ?_
 rintro k m2 uu2 w1_ hk2 ⟨hu,hx1_,hinv⟩
 simp only [List.map_cons,List.map_nil,List.cons.injEq,and_true] at hu
 try rw [hu]
 try clear hu
 refine zai ?_
 refine br (fun c1=>?_) (fun c1=>?_)
 · refine zad u24 ty9 h0 (by omega) fun b14 o14 h14=>?_
   refine zao ty9 h14 (e0.trans hx1_) fun hS15=>?_
   refine zay ?_
   refine br (fun c2=>?_) (fun c2=>?_)
   · refine ⟨hx1_,?_⟩
     rw [zje (by omega) hinv c2.symm]
   refine zah (by omega) ?_
   refine ⟨m2-1,by omega,k+1,by omega,by simp,hx1_,?_⟩
   exact zb6 (by omega) hinv (fun e=>c2 e.symm)
 refine ⟨hx1_,?_⟩
 rw [List.take_of_length_le (by omega)] at hinv
 rw [zhH hinv]
def F132 (a0 a1:Value) (w:World) (R:VW):Prop:=
 cL 155 [a0,a1] w fun x7 w=>
 rB .geq 3 T0 U0 x7 (iV 0) w fun x8=>
 R x8 w
def cfg132:Cfg:=⟨extL,[],[],[],[],[],[]⟩
theorem F132_call {a0 a1:Value} {w:World} {R:VW} (h:F132 a0 a1 w R):cL 132 [a0,a1] w R:=co (g:=cfg132) Tryz.func132 (by kernel_rfl) (by kernel_rfl) (by kernel_rfl) h
theorem zb7 {w:World} {v0:Value} {W0:World} {l:(List ByteArray)} {s:ByteArray}  (h0:Is W0 v0 l) (e0:Ext W0 w)  :
   CALL Tryz.prog 132 [v0,.string s] w fun r w'=>Ext w w'∧(r=.bool (decide (s∈l))):=by
 refine F132_call ?_
 unfold F132
 refine (zma h0 e0).mono ?_
 rintro _ w1_ ⟨hx1_,rfl⟩
 refine zb1 ?_
 refine ⟨hx1_,?_⟩
 simp [zdZ]
def F211 (a0 a1:Value) (w:World) (R:VW):Prop:=
 LOOPI [5] [(iV 0)] w fun u2 w next2=>
 rN 24 3 a0 w fun x8=>
 rC (u2 5) x8 w fun x9=>
 BR x9
 (rX 24 a0 (u2 5) w fun x14=>
 rL 9 x14 w fun x15=>
 rB .eql 9 T0 T0 x15 a1 w fun x17=>
 BR x17
 (R (Value.bool true) w)
 (rA (u2 5) (iV 1) w fun x11=>
 next2 [x11] w))
 (R (Value.bool false) w)
def cfg211:Cfg:=⟨extL,[],[(2,262128,[5])],[],[],[],[]⟩
theorem F211_call {a0 a1:Value} {w:World} {R:VW} (h:F211 a0 a1 w R):cL 211 [a0,a1] w R:=co (g:=cfg211) Tryz.func211 (by kernel_rfl) (by kernel_rfl) (by kernel_rfl) h
theorem zib {w:World} {v0:Value} {W0:World} {l:(List ByteArray)} {s:ByteArray}  (h0:Is W0 v0 l) (e0:Ext W0 w)  :
   CALL Tryz.prog 211 [v0,.string s] w fun r w'=>Ext w w'∧(r=.bool (decide (s∈l))):=by
 refine F211_call ?_
 unfold F211
 refine zaE (l.length) (fun k us w'=>us=[.int .i64 (k:Int)]∧Ext w w'∧(s∉l.take k)) (0) (by omega) ⟨by simp,Ext.refl w,by simp⟩ ?_
 rintro k m2 uu2 w1_ hk2 ⟨hu,hx1_,hinv⟩
 simp only [List.map_cons,List.map_nil,List.cons.injEq,and_true] at hu
 try rw [hu]
 try clear hu
 have hln8:=zaf h0
 refine zae u24 h0 ?_
 refine zai ?_
 refine br (fun c1=>?_) (fun c1=>?_)
 · refine zad u24 ty9 h0 (by omega) fun b14 o14 h14=>?_
   refine zao ty9 h14 (e0.trans hx1_) fun hS15=>?_
   refine zay ?_
   refine br (fun c2=>?_) (fun c2=>?_)
   · refine ⟨hx1_,?_⟩
     have:s∈l:=c2▸List.getElem_mem _
     simp [this]
   refine zah (by omega) ?_
   refine ⟨m2-1,by omega,k+1,by omega,by simp,hx1_,?_⟩
   exact zb6 (by omega) hinv c2
 refine ⟨hx1_,?_⟩
 rw [List.take_of_length_le (by omega)] at hinv
 simp [hinv]
def F205 (a0 a1:Value) (w:World) (R:VW):Prop:=
 rN 24 3 a0 w fun x8=>
 rB .gtr 3 T0 T0 x8 a1 w fun x10=>
 BR x10
 (R (Value.bool false) w)
 (rN 24 3 a0 w fun x12=>
 LOOPI [13] [(iV 0)] w fun u4 w next4=>
 rC (u4 13) x12 w fun x14=>
 BR x14
 (rX 24 a0 (u4 13) w fun x15=>
 rL 9 x15 w fun x16=>
 cL 241 [x16] w fun x18 w=>
 rD (Op.unary .not x18) w fun x19=>
 BR x19
 (R (Value.bool false) w)
 (rA (u4 13) (iV 1) w fun x20=>
 next4 [x20] w))
 (R (Value.bool true) w))
def cfg205:Cfg:=⟨extL,[],[(4,2089040,[13])],[],[],[],[]⟩
theorem F205_call {a0 a1:Value} {w:World} {R:VW} (h:F205 a0 a1 w R):cL 205 [a0,a1] w R:=co (g:=cfg205) Tryz.func205 (by kernel_rfl) (by kernel_rfl) (by kernel_rfl) h
theorem zfL {w:World} {v0:Value} {W0:World} {l:(List ByteArray)} {m:Int}  (h0:Is W0 v0 l) (e0:Ext W0 w)  :
   CALL Tryz.prog 205 [v0,.int .i64 m] w fun r w'=>Ext w w'∧(r=.bool (decide ((l.length:Int)≤m)&&l.all zaZ)):=by
 refine F205_call ?_
 unfold F205
 have hln8:=zaf h0
 refine zae u24 h0 ?_
 refine zb0 ?_
 refine br (fun c1=>?_) (fun c1=>?_)
 · refine ⟨Ext.refl w,?_⟩
   simp [show ¬(l.length:Int)≤m by omega]
 have hln12:=zaf h0
 refine zae u24 h0 ?_
 refine zaE (l.length) (fun k us w'=>us=[.int .i64 (k:Int)]∧Ext w w'∧((l.take k).all zaZ=true)) (0) (by omega) ⟨by simp,Ext.refl w,by simp⟩ ?_
 rintro k m4 uu4 w1_ hk4 ⟨hu,hx1_,hinv⟩
 simp only [List.map_cons,List.map_nil,List.cons.injEq,and_true] at hu
 try rw [hu]
 try clear hu
 refine zai ?_
 refine br (fun c2=>?_) (fun c2=>?_)
 · refine zad u24 ty9 h0 (by omega) fun b15 o15 h15=>?_
   refine zao ty9 h15 (e0.trans hx1_) fun hS16=>?_
   refine (zgf ).mono ?_
   rintro _ w2_ ⟨hx2_,rfl⟩
   refine zbs ?_
   refine zcM (fun c3=>?_) (fun c3=>?_)
   · refine ⟨(hx1_.trans hx2_),?_⟩
     simp only [zgi (p:=zaZ) (l:=l) (k:=k) (by omega) (by simpa using c3),Bool.and_false]
   have hln:=zaf h0
   refine zah (by omega) ?_
   refine ⟨m4-1,by omega,k+1,by omega,by simp,(hx1_.trans hx2_),?_⟩
   exact zhF (by omega) hinv (by simpa using c3)
 refine ⟨hx1_,?_⟩
 simp [zhG (p:=zaZ) (l:=l) (by omega) hinv,show (l.length:Int)≤m by omega]
def F224 (a0 a1:Value) (w:World) (R:VW):Prop:=
 rN 24 3 a0 w fun x7=>
 rB .gtr 3 T0 T0 x7 a1 w fun x9=>
 BR x9
 (R (Value.bool false) w)
 (LOOPI [5] [(iV 0)] w fun u4 w next4=>
 rN 24 3 a0 w fun x12=>
 rC (u4 5) x12 w fun x13=>
 BR x13
 (rX 24 a0 (u4 5) w fun x18=>
 rL 9 x18 w fun x19=>
 cL 253 [x19] w fun x20 w=>
 rD (Op.unary .not x20) w fun x21=>
 BR x21
 (R (Value.bool false) w)
 (rA (u4 5) (iV 1) w fun x15=>
 next4 [x15] w))
 (R (Value.bool true) w))
def cfg224:Cfg:=⟨extL,[],[(4,4193328,[5])],[],[],[],[]⟩
theorem F224_call {a0 a1:Value} {w:World} {R:VW} (h:F224 a0 a1 w R):cL 224 [a0,a1] w R:=co (g:=cfg224) Tryz.func224 (by kernel_rfl) (by kernel_rfl) (by kernel_rfl) h
theorem zdC {w:World} {v0:Value} {W0:World} {l:(List ByteArray)} {m:Int}  (h0:Is W0 v0 l) (e0:Ext W0 w)  :
   CALL Tryz.prog 224 [v0,.int .i64 m] w fun r w'=>Ext w w'∧(r=.bool (decide ((l.length:Int)≤m)&&l.all zaZ)):=by
 refine F224_call ?_
 unfold F224
 have hln7:=zaf h0
 refine zae u24 h0 ?_
 refine zb0 ?_
 refine br (fun c1=>?_) (fun c1=>?_)
 · refine ⟨Ext.refl w,?_⟩
   simp [show ¬(l.length:Int)≤m by omega]
 refine zaE (l.length) (fun k us w'=>us=[.int .i64 (k:Int)]∧Ext w w'∧((l.take k).all zaZ=true)) (0) (by omega) ⟨by simp,Ext.refl w,by simp⟩ ?_
 rintro k m4 uu4 w1_ hk4 ⟨hu,hx1_,hinv⟩
 simp only [List.map_cons,List.map_nil,List.cons.injEq,and_true] at hu
 try rw [hu]
 try clear hu
 have hln12:=zaf h0
 refine zae u24 h0 ?_
 refine zai ?_
 refine br (fun c2=>?_) (fun c2=>?_)
 · refine zad u24 ty9 h0 (by omega) fun b18 o18 h18=>?_
   refine zao ty9 h18 (e0.trans hx1_) fun hS19=>?_
   refine (specIsName_ok ).mono ?_
   rintro _ w2_ ⟨hx2_,rfl⟩
   refine zbs ?_
   refine zcM (fun c3=>?_) (fun c3=>?_)
   · refine ⟨(hx1_.trans hx2_),?_⟩
     simp only [zgi (p:=zaZ) (l:=l) (k:=k) (by omega) (by simpa using c3),Bool.and_false]
   refine zah (by omega) ?_
   refine ⟨m4-1,by omega,k+1,by omega,by simp,(hx1_.trans hx2_),?_⟩
   exact zhF (by omega) hinv (by simpa using c3)
 refine ⟨hx1_,?_⟩
 simp [zhG (p:=zaZ) (l:=l) (by omega) hinv,show (l.length:Int)≤m by omega]
instance decNodup:∀ (l:List ByteArray),Decidable l.Nodup
 | []=>isTrue List.nodup_nil
 | x :: l=>match decMemBA x l,decNodup l with
   | isFalse h,isTrue h'=>isTrue (List.nodup_cons.2 ⟨h,h'⟩)
   | isTrue h,_=>isFalse fun e=>(List.nodup_cons.1 e).1 h
   | _,isFalse h=>isFalse fun e=>h (List.nodup_cons.1 e).2
theorem ztk {l:List ByteArray} {k:Nat} (hk:k<l.length) (h:l[k]∈l.drop (k+1)):¬l.Nodup:=fun hn=>by
 have e:l=l.take k++(l[k] :: l.drop (k+1)):=by simp
 rw [e,List.nodup_append] at hn
 exact (List.nodup_cons.1 hn.2.1).1 h
theorem zr3 {l:List ByteArray} {k:Nat} (hk:k<l.length) (h:l[k]∈l.take k):¬l.Nodup:=fun hn=>by
 have e:l=l.take k++(l[k] :: l.drop (k+1)):=by simp
 rw [e,List.nodup_append] at hn
 exact hn.2.2 _ h _ List.mem_cons_self rfl
theorem zic {l:List ByteArray} {k:Nat} (hk:k<l.length) (h:(l.take k).Nodup) (c:l[k]∉l.take k):(l.take (k+1)).Nodup:=by
 rw [List.take_succ_eq_append_getElem hk,List.nodup_append]
 refine ⟨h,by simp,fun a ha b hb e=>?_⟩
 simp only [List.mem_cons,List.not_mem_nil,or_false] at hb
 subst e;subst hb
 exact c ha
theorem zfz:∀ {l:List ByteArray},(∀ (k:Nat) (hk:k<l.length),l[k]∉l.drop (k+1))→l.Nodup
 | [],_=>List.nodup_nil
 | x :: l,h=>List.nodup_cons.2 ⟨h 0 (by simp),zfz fun k hk=>h (k+1) (by simpa using hk)⟩
def F172 (a0:Value) (w:World) (R:VW):Prop:=
 rN 24 3 a0 w fun x6=>
 LOOPI [7] [(iV 0)] w fun u2 w next2=>
 rC (u2 7) x6 w fun x8=>
 BR x8
 (rX 24 a0 (u2 7) w fun x10=>
 rL 9 x10 w fun x11=>
 rA (u2 7) (iV 1) w fun x14=>
 rD (Instr.sliceAt 24 a0 (some x14) none none) w fun x15=>
 cL 132 [x15,x11] w fun x17 w=>
 BR x17
 (R (Value.bool true) w)
 (rA (u2 7) (iV 1) w fun x18=>
 next2 [x18] w))
 (R (Value.bool false) w)
def cfg172:Cfg:=⟨extL,[],[(2,524188,[7])],[],[],[],[]⟩
theorem F172_call {a0:Value} {w:World} {R:VW} (h:F172 a0 w R):cL 172 [a0] w R:=co (g:=cfg172) Tryz.func172 (by kernel_rfl) (by kernel_rfl) (by kernel_rfl) h
theorem zfM {w:World} {v0:Value} {W0:World} {l:(List ByteArray)}  (h0:Is W0 v0 l) (e0:Ext W0 w)  :
   CALL Tryz.prog 172 [v0] w fun r w'=>Ext w w'∧(r=.bool (decide (¬l.Nodup))):=by
 refine F172_call ?_
 unfold F172
 have hln6:=zaf h0
 refine zae u24 h0 ?_
 refine zaE (l.length) (fun k us w'=>us=[.int .i64 (k:Int)]∧Ext w w'∧(∀ (j:Nat) (hj:j<l.length),j<k→l[j]∉l.drop (j+1))) (0) (by omega) ⟨by simp,Ext.refl w,fun j hj h=>by omega⟩ ?_
 rintro k m2 uu2 w1_ hk2 ⟨hu,hx1_,hinv⟩
 simp only [List.map_cons,List.map_nil,List.cons.injEq,and_true] at hu
 try rw [hu]
 try clear hu
 have hln:=zaf h0
 refine zai ?_
 refine br (fun c1=>?_) (fun c1=>?_)
 · refine zad u24 ty9 h0 (by omega) fun b10 o10 h10=>?_
   refine zao ty9 h10 (e0.trans hx1_) fun hS11=>?_
   refine zah (by omega) ?_
   refine zf8 u24 ty9 h0 (by omega) (by omega) fun v15 h15=>?_
   refine (zb7 h15 (e0.trans hx1_)).mono ?_
   rintro _ w2_ ⟨hx2_,rfl⟩
   refine br (fun c2=>?_) (fun c2=>?_)
   · refine ⟨(hx1_.trans hx2_),?_⟩
     simp [ztk (by omega) c2]
   refine zah (by omega) ?_
   refine ⟨m2-1,by omega,k+1,by omega,by simp,(hx1_.trans hx2_),?_⟩
   intro j hj hjk
   by_cases h:j=k
   · subst h;exact c2
   exact hinv j hj (by omega)
 refine ⟨hx1_,?_⟩
 simp [zfz fun j hj=>hinv j hj (by omega)]
def F188 (a0:Value) (w:World) (R:VW):Prop:=
 LOOPI [3] [(iV 0)] w fun u2 w next2=>
 rN 24 3 a0 w fun x6=>
 rC (u2 3) x6 w fun x7=>
 BR x7
 ((fun w=>rD (Instr.sliceAt 24 a0 none (some (u2 3)) none) w fun x12=>
 rX 24 a0 (u2 3) w fun x15=>
 rL 9 x15 w fun x16=>
 cL 211 [x12,x16] w fun x17 w=>
 BR x17
 (R (Value.bool true) w)
 (rA (u2 3) (iV 1) w fun x9=>
 next2 [x9] w)) (World.drew1 w))
 (R (Value.bool false) w)
def cfg188:Cfg:=⟨extL,[],[(2,262140,[3])],[(4,[0,1,2,3,4,5,6,7],0)],[],[],[]⟩
theorem F188_call {a0:Value} {w:World} {R:VW} (h:F188 a0 w R):cL 188 [a0] w R:=co (g:=cfg188) Tryz.func188 (by kernel_rfl) (by kernel_rfl) (by kernel_rfl) h
theorem zcZ {w:World} {v0:Value} {W0:World} {l:(List ByteArray)}  (h0:Is W0 v0 l) (e0:Ext W0 w)  :
   CALL Tryz.prog 188 [v0] w fun r w'=>Ext w w'∧(r=.bool (decide (¬l.Nodup))):=by
 refine F188_call ?_
 unfold F188
 refine zaE (l.length) (fun k us w'=>us=[.int .i64 (k:Int)]∧Ext w w'∧((l.take k).Nodup)) (0) (by omega) ⟨by simp,Ext.refl w,by simp⟩ ?_
 rintro k m2 uu2 w1_ hk2 ⟨hu,hx1_,hinv⟩
 simp only [List.map_cons,List.map_nil,List.cons.injEq,and_true] at hu
 try rw [hu]
 try clear hu
 have hln:=zaf h0
 have hln6:=zaf h0
 refine zae u24 h0 ?_
 refine zai ?_
 refine br (fun c1=>?_) (fun c1=>?_)
 · have hx2_:=zaj w1_
   refine zh7 u24 ty9 h0 (by omega) (by omega) fun v12 h12=>?_
   refine zad u24 ty9 h0 (by omega) fun b15 o15 h15=>?_
   refine zao ty9 h15 (e0.trans (hx1_.trans hx2_)) fun hS16=>?_
   refine (zib h12 (e0.trans (hx1_.trans hx2_))).mono ?_
   rintro _ w3_ ⟨hx3_,rfl⟩
   refine br (fun c2=>?_) (fun c2=>?_)
   · refine ⟨(hx1_.trans (hx2_.trans hx3_)),?_⟩
     simp [zr3 (by omega) c2]
   refine zah (by omega) ?_
   refine ⟨m2-1,by omega,k+1,by omega,by simp,(hx1_.trans (hx2_.trans hx3_)),?_⟩
   exact zic (by omega) hinv c2
 refine ⟨hx1_,?_⟩
 rw [List.take_of_length_le (by omega)] at hinv
 simp [hinv]
def F244 (a0 a1:Value) (w:World) (R:VW):Prop:=
 cL 132 [a0,a1] w fun x7 w=>
 BR x7
 (R a0 w)
 (oP (Instr.buildSlice 24 1 #[(0,a1)]) w fun x11 w=>
 oP (Builtin.append_ #[24,24] 24 [a0,x11].toArray) w fun x12 w=>
 R x12 w)
def cfg244:Cfg:=⟨extL,[],[],[],[],[],[]⟩
theorem F244_call {a0 a1:Value} {w:World} {R:VW} (h:F244 a0 a1 w R):cL 244 [a0,a1] w R:=co (g:=cfg244) Tryz.func244 (by kernel_rfl) (by kernel_rfl) (by kernel_rfl) h
def F209 (a0 a1:Value) (w:World) (R:VW):Prop:=
 oP (Instr.box 78 a1) w fun x3 w=>
 rF 78 x3 0 w fun x7=>
 rL 3 x7 w fun x8=>
 rB .eql 3 T0 U0 x8 (iV 2) w fun x9=>
 BR x9
 (rF 78 x3 2 w fun x11=>
 rL 9 x11 w fun x12=>
 cL 244 [a0,x12] w fun x13 w=>
 R x13 w)
 (rF 78 x3 3 w fun x14=>
 rL 76 x14 w fun x15=>
 rN 76 3 x15 w fun x16=>
 LOOPI [0,17] [a0,(iV 0)] w fun u4 w next4=>
 rC (u4 17) x16 w fun x18=>
 BR x18
 (rX 76 x15 (u4 17) w fun x19=>
 rL 78 x19 w fun x20=>
 oP (Instr.alloc 78 true (.tuple #[])) w fun x6 w=>
 oS 78 x6 x20 w fun w=>
 rL 78 x6 w fun x22=>
 cL 209 [(u4 0),x22] w fun x23 w=>
 rA (u4 17) (iV 1) w fun x24=>
 next4 [x23,x24] w)
 (R (u4 0) w))
def cfg209:Cfg:=⟨extL,[],[(4,33423425,[0,17])],[],[],[],[]⟩
theorem F209_call {a0 a1:Value} {w:World} {R:VW} (h:F209 a0 a1 w R):cL 209 [a0,a1] w R:=co (g:=cfg209) Tryz.func209 (by kernel_rfl) (by kernel_rfl) (by kernel_rfl) h
def F263 (a0 a1:Value) (w:World) (R:VW):Prop:=
 oP (Instr.box 78 a0) w fun x2 w=>
 rF 78 x2 0 w fun x7=>
 rL 3 x7 w fun x8=>
 rB .eql 3 T0 U0 x8 (iV 2) w fun x9=>
 BR x9
 (LOOPI [5] [(iV 0)] w fun u3 w next3=>
 rN 24 3 a1 w fun x12=>
 rC (u3 5) x12 w fun x13=>
 BR x13
 ((fun w=>rX 24 a1 (u3 5) w fun x18=>
 rL 9 x18 w fun x19=>
 rF 78 x2 2 w fun x20=>
 rL 9 x20 w fun x21=>
 rB .eql 9 T0 T0 x19 x21 w fun x22=>
 BR x22
 (R a1 w)
 (rA (u3 5) (iV 1) w fun x15=>
 next3 [x15] w)) (World.drew1 w))
 (rF 78 x2 2 w fun x25=>
 rL 9 x25 w fun x26=>
 oP (Instr.buildSlice 24 1 #[(0,x26)]) w fun x27 w=>
 oP (Builtin.append_ #[24,24] 24 [a1,x27].toArray) w fun x28 w=>
 R x28 w))
 (LOOPI [1,6] [a1,(iV 0)] w fun u9 w next9=>
 rF 78 x2 3 w fun x30=>
 rL 76 x30 w fun x31=>
 rN 76 3 x31 w fun x32=>
 rC (u9 6) x32 w fun x33=>
 BR x33
 (rF 78 x2 3 w fun x36=>
 rL 76 x36 w fun x37=>
 rX 76 x37 (u9 6) w fun x39=>
 rL 78 x39 w fun x40=>
 cL 263 [x40,(u9 1)] w fun x42 w=>
 rA (u9 6) (iV 1) w fun x35=>
 next9 [x42,x35] w)
 (R (u9 1) w))
def cfg263:Cfg:=⟨extL,[],[(3,16776240,[5]),(9,8795556151362,[1,6])],[(5,[0,1,2,3,4,5,6],0)],[],[],[]⟩
theorem F263_call {a0 a1:Value} {w:World} {R:VW} (h:F263 a0 a1 w R):cL 263 [a0,a1] w R:=co (g:=cfg263) Tryz.func263 (by kernel_rfl) (by kernel_rfl) (by kernel_rfl) h
def F131 (a0:Value) (w:World) (R:VW):Prop:=
 oP (Instr.box 78 a0) w fun x1 w=>
 rL 78 x1 w fun x3=>
 cL 207 [x3] w fun x4 w=>
 rD (Op.unary .not x4) w fun x5=>
 BR x5
 (R (Value.slice none 0 0) w)
 (rL 78 x1 w fun x6=>
 cL 209 [(Value.slice none 0 0),x6] w fun x7 w=>
 R x7 w)
def cfg131:Cfg:=⟨extL,[],[],[],[],[],[]⟩
theorem F131_call {a0:Value} {w:World} {R:VW} (h:F131 a0 w R):cL 131 [a0] w R:=co (g:=cfg131) Tryz.func131 (by kernel_rfl) (by kernel_rfl) (by kernel_rfl) h
def F210 (a0:Value) (w:World) (R:VW):Prop:=
 oP (Instr.box 78 a0) w fun x1 w=>
 rL 78 x1 w fun x3=>
 cL 194 [x3] w fun x4 w=>
 rD (Op.unary .not x4) w fun x5=>
 BR x5
 (oP (Instr.buildSlice 24 0 #[]) w fun x6 w=>
 R x6 w)
 (rL 78 x1 w fun x7=>
 oP (Instr.buildSlice 24 0 #[]) w fun x8 w=>
 cL 263 [x7,x8] w fun x9 w=>
 R x9 w)
def cfg210:Cfg:=⟨extL,[],[],[],[],[],[]⟩
theorem F210_call {a0:Value} {w:World} {R:VW} (h:F210 a0 w R):cL 210 [a0] w R:=co (g:=cfg210) Tryz.func210 (by kernel_rfl) (by kernel_rfl) (by kernel_rfl) h
def zoA (l:List ByteArray) (s:ByteArray):List ByteArray:=if s∈l then l else l++[s]
theorem zqD (l:List ByteArray) (s:ByteArray):(zoA l s).length≤l.length+1:=by unfold zoA;split<;>simp
def readsT:Nat→DTerm→List ByteArray→List ByteArray
 | n,t,l=>if t.kind=2 then zoA l t.name else match n with | 0=>l | m+1=>t.kids.foldl (fun l k=>readsT m k l) l
theorem zc0 (n:Nat) (t:DTerm) (l:List ByteArray):readsT n t l=if t.kind=2 then zoA l t.name else match n with | 0=>l | m+1=>t.kids.foldl (fun l k=>readsT m k l) l:=readsT.eq_def n t l
theorem zjf {α β:Type} (f:β→α→β) (b:β) {l:List α} {k:Nat} (hk:k<l.length):(l.take (k+1)).foldl f b=f ((l.take k).foldl f b) l[k]:=by
 rw [List.take_succ_eq_append_getElem hk,List.foldl_append];rfl
theorem zid {n:Nat} {t:DTerm} (h:zaQ n t=true) (h2:¬t.kind=2):t.kids=[]∨∃ m,n=m+1∧t.kids.length≤2∧∀ k∈t.kids,zaQ m k=true:=by
 by_cases h1:t.kind=1
 · rw [zdp h1] at h
   simp only [Bool.and_eq_true,decide_eq_true_eq] at h
   exact .inl (List.eq_nil_of_length_eq_zero (by omega))
 rw [za1 h1 h2] at h
 simp only [Bool.and_eq_true,decide_eq_true_eq] at h
 obtain ⟨⟨_,h3⟩,h4⟩:=h
 cases n with
 | zero=>simp at h4
 | succ m=>
   refine .inr ⟨m,rfl,?_,fun k hk=>List.all_eq_true.1 h4 k hk⟩
   split at h3<;>omega
theorem zgP:∀ (n:Nat) (t:DTerm) (l:List ByteArray),zaQ n t=true→(readsT n t l).length≤l.length+2^n
 | n,t,l,h=>by
   rw [zc0]
   have hp:1≤2^n:=Nat.one_le_two_pow
   split
   · have:=zqD l t.name;omega
   rename_i h2
   rcases zid h h2 with hk | ⟨m,rfl,hk,hall⟩
   · cases n with
     | zero=>simp
     | succ m=>simp [hk]
   show (t.kids.foldl (fun l k=>readsT m k l) l).length≤_
   have key:∀ (ks:List DTerm) (l:List ByteArray),(∀ k∈ks,zaQ m k=true)→(ks.foldl (fun l k=>readsT m k l) l).length≤l.length+ks.length*2^m:=by
     intro ks
     induction ks with
     | nil=>intro l _;simp
     | cons k ks ih=>
       intro l hks
       rw [List.foldl_cons,List.length_cons,Nat.add_mul,Nat.one_mul]
       have h1:=ih (readsT m k l) fun x hx=>hks x (by simp [hx])
       have h2:=zgP m k l (hks k (by simp))
       omega
   have h1:=key t.kids l hall
   have h2:t.kids.length*2^m≤2*2^m:=Nat.mul_le_mul_right _ hk
   rw [Nat.pow_succ];omega
theorem zm9 {w:World} {v:Value} {l:List ByteArray} {F:List Nat} {s:ByteArray} {ty:TypeId} {K:Value→World→Prop} (hr:RowF F 9 w v l) (hn:F.Nodup) (hs:s.size≤maxLen) (hl:l.length≤1000000)
   (k:∀ v' w',Chg F w w'→(∃ F',RowF F' 9 w' v' (l++[s])∧F'.Nodup∧∀ b∈F',b∈F∨w.heap.size≤b)→K v' w') :
   OP Tryz.prog (Instr.buildSlice 24 1 #[(0,.string s)]) w fun x w1=>OP Tryz.prog (Builtin.append_ #[24,24] ty [v,x].toArray) w1 K:=by
 refine zgh (α:=ByteArray) (x:=s) (F:=[]) u24 ty9 z9 (by decide) ⟨⟨_,⟨rfl,rfl,hs⟩,rfl⟩,List.nodup_nil,Wr.nil _⟩ fun w1 hx1 hm1=>?_
 obtain ⟨a,cap,Fi,xs,he,h1,h2,hc,h4⟩:=zcq hm1.is
 have hFi:=Cells.flat (xs:=xs) hc
 subst hFi
 refine zeZ (α:=ByteArray) (m:=[s]) u24 ty9 zc9 (hr.ext hx1) hn he hc (.inr ?_) (Wr.nil _) (by simpa using hn) (by simp only [List.length_cons,List.length_nil,zam];omega) (by simp only [List.length_cons,List.length_nil];omega) fun v' w' F' hch hfull hr' hn' hs'=>?_
 · rcases h4 with h4 | ⟨b,o,ha,hra,_⟩
   · simp at h4
   exact ⟨b,o,ha,hra⟩
 have hown:∀ c∈v.ownBlock.toList,c∈F:=fun c hc=>by
   obtain ⟨xs,Fi,_,_,rfl,_⟩:=hr
   simp only [List.mem_append];exact .inl hc
 refine k v' w' ((Ext.chg F hx1).trans (hch.mono hown)) ⟨F',hr',hn',fun b hb=>?_⟩
 rcases hs' b hb with h | h | h
 · exact .inl h
 · simp at h
 exact .inr (Nat.le_trans hx1.size h)
theorem zn0 {w:World} {v:Value} {l:List ByteArray} {F:List Nat} {s:ByteArray} (hr:RowF F 9 w v l) (hn:F.Nodup) (hs:s.size≤maxLen) (hl:l.length≤1000000) :
   CALL Tryz.prog 244 [v,.string s] w fun r w'=>Chg F w w'∧∃ F',RowF F' 9 w' r (zoA l s)∧F'.Nodup∧∀ b∈F',b∈F∨w.heap.size≤b:=by
 refine F244_call ?_
 unfold F244
 refine (zb7 hr.own.is (Ext.refl w)).mono ?_
 rintro _ w1 ⟨hx1,rfl⟩
 refine br (fun c1=>?_) (fun c1=>?_)
 · exact ⟨Ext.chg F hx1,F,by unfold zoA;rw [if_pos c1];exact hr.ext hx1,hn,fun b hb=>.inl hb⟩
 refine zm9 (hr.ext hx1) hn hs hl fun v' w' hc ⟨F',h1,h2,h3⟩=>⟨(Ext.chg F hx1).trans hc,F',by unfold zoA;rw [if_neg c1];exact h1,h2,fun b hb=>?_⟩
 rcases h3 b hb with h | h
 · exact .inl h
 exact .inr (Nat.le_trans hx1.size h)
def zjX (F:List Nat) (w:World) (l:List ByteArray) (r:Value) (w':World):Prop:=Chg F w w'∧∃ F',RowF F' 9 w' r l∧F'.Nodup∧∀ b∈F',b∈F∨w.heap.size≤b
def ztW (n:Nat):Prop:=∀ {w W:World} {v u:Value} {t:DTerm} {l:List ByteArray} {F:List Nat},Is W v t→Ext W w→RowF F 9 w u l→F.Nodup→(∀ b∈F,W.heap.size≤b)→zaQ n t=true→l.length+2^n≤1000 →
 CALL Tryz.prog 209 [u,v] w (zjX F w (readsT n t l))
def ztX (n:Nat):Prop:=∀ {w W:World} {v u:Value} {t:DTerm} {l:List ByteArray} {F:List Nat},Is W v t→Ext W w→RowF F 9 w u l→F.Nodup→(∀ b∈F,W.heap.size≤b)→zaQ n t=true→l.length+2^n≤1000 →
 CALL Tryz.prog 263 [v,u] w (zjX F w (readsT n t l))
theorem zhI {n:Nat} {t:DTerm} {l:List ByteArray} (h:t.kind=2):readsT n t l=zoA l t.name:=by rw [zc0,if_pos h]
theorem zie {n:Nat} {t:DTerm} {l:List ByteArray} (h:zaQ n t=true) (h2:¬t.kind=2) (hl:l.length+2^n≤1000) :
   ∃ m,(t.kids=[]∨n=m+1)∧readsT n t l=t.kids.foldl (fun l k=>readsT m k l) l∧(∀ k∈t.kids,zaQ m k=true)∧∀ k,k<t.kids.length→((t.kids.take k).foldl (fun l k=>readsT m k l) l).length+2^m≤1000:=by
 rcases zid h h2 with hk | ⟨m,rfl,hk,hall⟩
 · refine ⟨0,.inl hk,?_,by simp [hk],by simp [hk]⟩
   rw [zc0,if_neg h2,hk]
   cases n<;>rfl
 refine ⟨m,.inr rfl,by rw [zc0,if_neg h2],hall,fun k hkl=>?_⟩
 rw [Nat.pow_succ] at hl
 have key:∀ (ks:List DTerm) (l:List ByteArray),(∀ k∈ks,zaQ m k=true)→(ks.foldl (fun l k=>readsT m k l) l).length≤l.length+ks.length*2^m:=by
   intro ks
   induction ks with
   | nil=>intro l _;simp
   | cons k ks ih=>
     intro l hks
     rw [List.foldl_cons,List.length_cons,Nat.add_mul,Nat.one_mul]
     have h1:=ih (readsT m k l) fun x hx=>hks x (by simp [hx])
     have h2:=zgP m k l (hks k (by simp))
     omega
 have h1:=key (t.kids.take k) l fun x hx=>hall x (List.mem_of_mem_take hx)
 have h3:(t.kids.take k).length≤1:=by simp;omega
 have h4:(t.kids.take k).length*2^m≤1*2^m:=Nat.mul_le_mul_right _ h3
 omega
theorem zna {W w:World} {b o:Nat} {t:DTerm} (h:AtB W w b o t):AtB W w b (o+3) t.kids:=by
 have h':AtB W w b o t.tup:=by obtain ⟨F,cs,hr,ha⟩:=h;exact ⟨F,cs,zfE.1 hr,ha⟩
 exact h'.snd.snd.snd
theorem zjY {n:Nat} (ih:∀ m,m+1=n→ztW m):ztW n:=by
 intro w W v u t l F h e hr hn hF ht hl
 refine F209_call ?_
 unfold F209
 refine zal zcs rfl h e fun w1 hx1 hA hV=>?_
 refine zaa zd7 ?_
 refine zac ty3 (zbu hA) (Ext.refl w1) fun _=>?_
 refine zag ?_
 refine br (fun c1=>?_) (fun c1=>?_)
 · refine zaa zdO ?_
   refine zao ty9 (zbj hA) (Ext.refl w1) fun hS=>?_
   have hp:1≤2^n:=Nat.one_le_two_pow
   refine (zn0 (hr.ext hx1) hn hS (by omega)).mono ?_
   rintro r w2 ⟨hc,F',h1,h2,h3⟩
   refine ⟨(Ext.chg F hx1).trans hc,F',by rw [zhI c1];exact h1,h2,fun b hb=>?_⟩
   rcases h3 b hb with h | h
   · exact .inl h
   exact .inr (Nat.le_trans hx1.size h)
 obtain ⟨m,hm,he,hks,hlen⟩:=zie ht c1 hl
 refine zaa zbL ?_
 refine zdB zgI (zna (zl9 h hV rfl)) (e.trans hx1) (Ext.refl w1) fun v15 h15=>?_
 refine zae u76 h15 ?_
 have hll:=zaf h15
 refine zaE t.kids.length (fun k us w'=>∃ q,us=[q,.int .i64 (k:Int)]∧zjX F w ((t.kids.take k).foldl (fun l k=>readsT m k l) l) q w') 0 (Nat.zero_le _) ⟨u,rfl,Ext.chg F hx1,F,by simpa using hr.ext hx1,hn,fun b hb=>.inl hb⟩ ?_
 rintro k mm uu w2 hkm ⟨q,hu,hc2,F2,hr2,hn2,hs2⟩
 obtain ⟨hu0,hu1⟩:=zfZ hu
 try rw [hu0]
 try rw [hu1]
 have hF2:∀ b∈F2,W.heap.size≤b:=fun b hb=>by
   rcases hs2 b hb with h | h
   · exact hF b h
   exact Nat.le_trans e.size h
 have hxW:Ext W w2:=e.chg_trans hc2 hF
 refine zai ?_
 refine br (fun c2=>?_) (fun c2=>?_)
 · have hk:k<t.kids.length:=by omega
   obtain ⟨m',rfl⟩:∃ m',n=m'+1:=by
     rcases hm with h | h
     · rw [h] at hk;simp at hk
     exact ⟨m,h⟩
   have hmm:m'=m:=by
     rcases hm with h | h
     · rw [h] at hk;simp at hk
     omega
   subst hmm
   refine zad u76 zcs h15 hk fun b o hA2=>?_
   refine zab zcs hA2 hxW fun v20 h20=>?_
   refine zeY zsX rfl zcs rfl h20 hxW fun w3 hx3 hA3 hV3=>?_
   refine zan hV3 (Ext.refl w3) ?_
   refine (ih m' rfl h20 (hxW.trans hx3) (hr2.ext hx3) hn2 hF2 (hks _ (List.getElem_mem hk)) (hlen k hk)).mono ?_
   rintro r w4 ⟨hc4,F4,hr4,hn4,hs4⟩
   refine zah (by omega) ?_
   refine ⟨mm-1,by omega,k+1,by omega,r,rfl,?_⟩
   refine ⟨?_,F4,by rw [zjf _ _ hk];exact hr4,hn4,fun b hb=>?_⟩
   · -- the blocks of F alone have turned
     refine ⟨hc4.os.trans (hx3.os.trans hc2.os),hc4.tape.trans (hx3.tape.trans hc2.tape),hc4.output.trans (hx3.output.trans hc2.output),Nat.le_trans hc2.size (Nat.le_trans hx3.size hc4.size),fun b hb hbF=>?_⟩
     have hb2:b<w2.heap.size:=Nat.lt_of_lt_of_le hb hc2.size
     have hbF2:b∉F2:=fun hm=>by
       rcases hs2 b hm with h | h
       · exact hbF h
       omega
     rw [hc4.block b (Nat.lt_of_lt_of_le hb2 hx3.size) hbF2,hx3.heap hb2,hc2.block b hb hbF]
   rcases hs4 b hb with h | h
   · exact hs2 b h
   have:=hx3.size;have:=hc2.size;exact .inr (by omega)
 rw [List.take_of_length_le (by omega),←he] at hr2
 exact ⟨hc2,F2,hr2,hn2,hs2⟩
theorem zif:∀ n,ztW n
  | n=>zjY fun m hm=>zif m
termination_by n=>n
decreasing_by omega
theorem zjZ {n:Nat} (ih:∀ m,m+1=n→ztX m):ztX n:=by
 intro w W v u t l F h e hr hn hF ht hl
 refine F263_call ?_
 unfold F263
 have hlen:=zaf hr.own.is
 have hp:1≤2^n:=Nat.one_le_two_pow
 refine zal zcs rfl h e fun w1 hx1 hA hV=>?_
 have hg1:w.heap.size<w1.heap.size:=hV.lt
 have hgF:w.heap.size∉F:=fun hm=>by have:=hr.lt _ hm;omega
 refine zaa zd7 ?_
 refine zac ty3 (zbu hA) (Ext.refl w1) fun _=>?_
 refine zag ?_
 refine br (fun c1=>?_) (fun c1=>?_)
 · have hr1:=hr.ext hx1
   refine zaE l.length (fun k us w'=>us=[.int .i64 (k:Int)]∧Ext w1 w'∧t.name∉l.take k) 0 (Nat.zero_le _) ⟨rfl,Ext.refl w1,by simp⟩ ?_
   rintro k mm uu w2 hkm ⟨hu,hx2,hinv⟩
   simp only [List.map_cons,List.map_nil,List.cons.injEq,and_true] at hu
   rw [hu]
   refine zae u24 hr1.own.is ?_
   refine zai ?_
   refine br (fun c2=>?_) (fun c2=>?_)
   · have hk:k<l.length:=by omega
     have hx3:=hx2.trans (zaj w2)
     refine zad u24 ty9 hr1.own.is hk fun b o hA2=>?_
     refine zao ty9 hA2 hx3 fun _=>?_
     refine zaa zdO ?_
     refine zao ty9 (zbj hA) hx3 fun _=>?_
     refine zay ?_
     refine br (fun c3=>?_) (fun c3=>?_)
     · have hm:t.name∈l:=c3▸List.getElem_mem hk
       refine ⟨Ext.chg F (hx1.trans hx3),F,?_,hn,fun b hb=>.inl hb⟩
       rw [zhI c1,zoA,if_pos hm]
       exact hr1.ext hx3
     refine zah (by omega) ?_
     exact ⟨mm-1,by omega,k+1,by omega,rfl,hx3,zb6 hk hinv c3⟩
   rw [List.take_of_length_le (by omega)] at hinv
   have hx3:=hx2.trans (zaj w2)
   first
     | refine zaa zdO ?_
     | skip
   refine zao ty9 (zbj hA) hx2 fun hS=>?_
   refine zm9 (hr1.ext hx2) hn hS (by omega) fun v' w' hc ⟨F',h1,h2,h3⟩=>?_
   refine ⟨(Ext.chg F (hx1.trans hx2)).trans hc,F',by rw [zhI c1,zoA,if_neg hinv];exact h1,h2,fun b hb=>?_⟩
   rcases h3 b hb with h | h
   · exact .inl h
   exact .inr (Nat.le_trans (hx1.trans hx2).size h)
 obtain ⟨m,hm,he,hks,hlen⟩:=zie ht c1 hl
 refine zaE t.kids.length (fun k us w'=>∃ q,us=[q,.int .i64 (k:Int)]∧zjX F w1 ((t.kids.take k).foldl (fun l k=>readsT m k l) l) q w') 0 (Nat.zero_le _) ⟨u,rfl,Chg.refl F w1,F,by simpa using hr.ext hx1,hn,fun b hb=>.inl hb⟩ ?_
 rintro k mm uu w2 hkm ⟨q,hu,hc2,F2,hr2,hn2,hs2⟩
 obtain ⟨hu0,hu1⟩:=zfZ hu
 try rw [hu0]
 try rw [hu1]
 have hF2:∀ b∈F2,W.heap.size≤b:=fun b hb=>by
   rcases hs2 b hb with h | h
   · exact hF b h
   have:=e.size;have:=hx1.size;omega
 have hxW:Ext W w2:=(e.trans hx1).chg_trans hc2 hF
 have hB2:AtB W w2 w.heap.size 0 t:=(zl9 h hV rfl).keep (hc2.block _ hg1 hgF)
 have hA2:=hB2.at hxW
 refine zaa zbL ?_
 refine zab zgI (zaJ hA2) (Ext.refl w2) fun v31 h31=>?_
 refine zae u76 h31 ?_
 have hll:=zaf h31
 refine zai ?_
 refine br (fun c2=>?_) (fun c2=>?_)
 · have hk:k<t.kids.length:=by omega
   obtain ⟨m',rfl⟩:∃ m',n=m'+1:=by
     rcases hm with h | h
     · rw [h] at hk;simp at hk
     exact ⟨m,h⟩
   have hmm:m'=m:=by
     rcases hm with h | h
     · rw [h] at hk;simp at hk
     omega
   subst hmm
   refine zaa zbL ?_
   refine zdB zgI (zna hB2) hxW (Ext.refl w2) fun v37 h37=>?_
   refine zad u76 zcs h37 hk fun b o hA3=>?_
   refine zab zcs hA3 hxW fun v40 h40=>?_
   refine (ih m' rfl h40 hxW hr2 hn2 hF2 (hks _ (List.getElem_mem hk)) (hlen k hk)).mono ?_
   rintro r w4 ⟨hc4,F4,hr4,hn4,hs4⟩
   refine zah (by omega) ?_
   refine ⟨mm-1,by omega,k+1,by omega,r,rfl,?_⟩
   refine ⟨?_,F4,by rw [zjf _ _ hk];exact hr4,hn4,fun b hb=>?_⟩
   · refine ⟨hc4.os.trans hc2.os,hc4.tape.trans hc2.tape,hc4.output.trans hc2.output,Nat.le_trans hc2.size hc4.size,fun b hb hbF=>?_⟩
     have hb2:b<w2.heap.size:=Nat.lt_of_lt_of_le hb hc2.size
     have hbF2:b∉F2:=fun hm=>by
       rcases hs2 b hm with h | h
       · exact hbF h
       omega
     rw [hc4.block b hb2 hbF2,hc2.block b hb hbF]
   rcases hs4 b hb with h | h
   · exact hs2 b h
   have:=hc2.size;exact .inr (by omega)
 rw [List.take_of_length_le (by omega),←he] at hr2
 refine ⟨(Ext.chg F hx1).trans hc2,F2,hr2,hn2,fun b hb=>?_⟩
 rcases hs2 b hb with h | h
 · exact .inl h
 exact .inr (Nat.le_trans hx1.size h)
theorem zig:∀ n,ztX n
  | n=>zjZ fun m hm=>zig m
termination_by n=>n
decreasing_by omega
def zbe (t:DTerm):List ByteArray:=if zaQ 6 t=true then readsT 6 t [] else []
theorem zmb (t:DTerm):(zbe t).length≤64:=by
 unfold zbe
 split
 · have:=zgP 6 t [] (by assumption);simpa using this
 simp
theorem zqE {α:Type} [Rep α] (e:TypeId) (w:World):RowF (α:=α) [] e w (.slice none 0 0) []:=⟨[],[],⟨by simp,.inl ⟨rfl,rfl⟩⟩,⟨rfl,rfl⟩,rfl,Wr.nil _⟩
theorem zd0 {w W:World} {v:Value} {t:DTerm} (h:Is W v t) (e:Ext W w):CALL Tryz.prog 131 [v] w fun r w'=>Ext w w'∧Is w' r (zbe t):=by
 refine F131_call ?_
 unfold F131
 refine zal zcs rfl h e fun w1 hx1 hA hV=>?_
 refine zan hV (Ext.refl w1) ?_
 refine (zez h (e.trans hx1)).mono ?_
 rintro _ w2 ⟨hx2,rfl⟩
 refine zbs ?_
 refine zcM (fun c=>?_) (fun c=>?_)
 · refine ⟨hx1.trans hx2,?_⟩
   unfold zbe
   rw [if_neg (by simpa using c)]
   exact zs9 rfl
 have c:zaQ 6 t=true:=by simpa using c
 refine zan hV hx2 ?_
 refine (zif 6 h ((e.trans hx1).trans hx2) (zqE _ _) List.nodup_nil (by simp) c (by decide)).mono ?_
 rintro r w3 ⟨hc,F',hr,hn,hs⟩
 refine ⟨(hx1.trans hx2).trans (Chg.ext hc),?_⟩
 unfold zbe
 rw [if_pos c]
 exact hr.own.is
theorem zc7 {w W:World} {v:Value} {t:DTerm} (h:Is W v t) (e:Ext W w):CALL Tryz.prog 210 [v] w fun r w'=>Ext w w'∧Is w' r (zbe t):=by
 refine F210_call ?_
 unfold F210
 refine zal zcs rfl h e fun w1 hx1 hA hV=>?_
 refine zan hV (Ext.refl w1) ?_
 refine (zbZ h (e.trans hx1)).mono ?_
 rintro _ w2 ⟨hx2,rfl⟩
 refine zbs ?_
 refine zcM (fun c=>?_) (fun c=>?_)
 · refine zhZ (α:=ByteArray) u24 ty9 fun a w3 hx3 hr3=>?_
   refine ⟨(hx1.trans hx2).trans hx3,?_⟩
   unfold zbe
   rw [if_neg (by simpa using c)]
   exact hr3.is
 have c:zaQ 6 t=true:=by simpa using c
 refine zan hV hx2 ?_
 refine zhZ (α:=ByteArray) u24 ty9 fun a w3 hx3 hr3=>?_
 obtain ⟨F,hr,hn,hl⟩:=hr3
 have hx13:=(hx1.trans hx2)
 refine (zig 6 h ((e.trans hx13).trans hx3) hr hn (fun b hb=>Nat.le_trans (e.trans hx13).size (hl b hb)) c (by decide)).mono ?_
 rintro r w4 ⟨hc,F',hr',hn',hs'⟩
 refine ⟨(hx13.trans hx3).chg_trans hc (fun b hb=>Nat.le_trans hx13.size (hl b hb)),?_⟩
 unfold zbe
 rw [if_pos c]
 exact hr'.own.is
def zqh (l:List ByteArray):Nat:=l.length+sm ByteArray.size l
mutual
def wT:DTerm→Nat
  | .mk _ _ s ks=>s.size+wTs ks
def wTs:List DTerm→Nat
  | []=>0
  | t :: r=>1+wT t+wTs r
end
theorem zpb (l:List DTerm):wTs l=l.length+sm wT l:=by
 induction l with
 | nil=>simp [wTs,sm]
 | cons t l ih=>rw [wTs,ih];simp [sm];omega
theorem zr4 (t:DTerm):wT t=t.name.size+wTs t.kids:=by cases t;rw [wT];rfl
def ztY (l:List DIns):Nat:=l.length+sm (fun i=>wT i.term) l
def zn1 (c:DCode):Nat:=zqh c.globals+zqh c.locks+zqh c.procs+c.entry.length+ztY c.ins
end Go.Proofs.YtdmailcgaekimaaGreat
