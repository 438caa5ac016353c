/-
  Parts of the proof, put together by program.
-/
import Derived.Test.YtcnglfeoglgebaaGreatPFnGuarded4
set_option linter.unusedVariables false
set_option linter.unusedSimpArgs false
set_option linter.unusedSectionVars false
namespace Go.Sh
open Rep (rep)
inductive DStmt where
 | mk (kind:Int) (name:ByteArray) (term:DTerm) (body els:List DStmt)
namespace DStmt
def kind:DStmt→Int | .mk k _ _ _ _=>k
def name:DStmt→ByteArray | .mk _ s _ _ _=>s
def term:DStmt→DTerm | .mk _ _ t _ _=>t
def body:DStmt→List DStmt | .mk _ _ _ b _=>b
def els:DStmt→List DStmt | .mk _ _ _ _ e=>e
def tup (t:DStmt):Int×ByteArray×DTerm×List DStmt×List DStmt:=(t.kind,t.name,t.term,t.body,t.els)
end DStmt
theorem DStmt.eta (t:DStmt):DStmt.mk t.kind t.name t.term t.body t.els=t:=by cases t;rfl
theorem DStmt.body_lt {t k:DStmt} (h:k∈t.body):SizeOf.sizeOf k<SizeOf.sizeOf t:=by
 cases t with
 | mk a b c l m=>
   have:k∈l:=h
   have:=List.sizeOf_lt_of_mem this
   simp only [DStmt.mk.sizeOf_spec];omega
theorem DStmt.els_lt {t k:DStmt} (h:k∈t.els):SizeOf.sizeOf k<SizeOf.sizeOf t:=by
 cases t with
 | mk a b c l m=>
   have:k∈m:=h
   have:=List.sizeOf_lt_of_mem this
   simp only [DStmt.mk.sizeOf_spec];omega
theorem DStmt.ind {p:DStmt→Prop} (h:∀ t,(∀ k∈t.body,p k)→(∀ k∈t.els,p k)→p t) (t:DStmt):p t:=
  h t (fun k hk=>DStmt.ind h k) (fun k hk=>DStmt.ind h k)
termination_by SizeOf.sizeOf t
decreasing_by
  · exact DStmt.body_lt hk
  exact DStmt.els_lt hk
def slc (n:Nat) (nl:Prop) (w:World) (F:List Nat) (c:Value) (C:List Nat→List Value→Prop):Prop:=
 ∃ a cap Fi xs,c=.slice a n cap∧n≤cap∧cap≤maxLen∧C Fi xs∧((nl∧F=[])∨∃ b o,a=some ⟨b,o,none⟩∧F=b :: Fi∧w.rangeAt b o xs∧b<w.heap.size)
theorem znI {n:Nat} {nl:Prop} {w:World} {F:List Nat} {c:Value} {C:List Nat→List Value→Prop} (h:slc n nl w F c C):c.oneCell'=true:=by
 obtain ⟨a,cap,Fi,xs,rfl,_⟩:=h;rfl
theorem zl9 {w w':World} {b:Nat} (hb:b<w.heap.size) (h:w'.heap[b]?=w.heap[b]?):b<w'.heap.size:=by
 rcases Nat.lt_or_ge b (Array.size (World.heap w')) with h' | h'
 · exact h'
 rw [Array.getElem?_eq_none h'] at h
 simp [Array.getElem?_eq_getElem hb] at h
theorem zls {n:Nat} {nl:Prop} {w w':World} {F:List Nat} {c:Value} {C C':List Nat→List Value→Prop} (h:slc n nl w F c C) (hk:∀ b∈F,w'.heap[b]?=w.heap[b]?)
   (hC:∀ Fi xs,C Fi xs→(∀ b∈Fi,w'.heap[b]?=w.heap[b]?)→C' Fi xs) (hN:nl→∀ Fi xs,C Fi xs→Fi=[]):slc n nl w' F c C':=by
 obtain ⟨a,cap,Fi,xs,hc,h1,h2,h3,h4⟩:=h
 rcases h4 with ⟨hn,rfl⟩ | ⟨b,o,ha,hF,hr,hb⟩
 · exact ⟨a,cap,Fi,xs,hc,h1,h2,hC _ _ h3 (fun b hb=>by rw [hN hn _ _ h3] at hb;cases hb),.inl ⟨hn,rfl⟩⟩
 subst hF
 have hbb:=hk b (by simp)
 exact ⟨a,cap,Fi,xs,hc,h1,h2,hC _ _ h3 fun c hc=>hk c (by simp [hc]),.inr ⟨b,o,ha,rfl,zaS hr hbb,zl9 hb hbb⟩⟩
theorem zpS {n:Nat} {nl:Prop} {w:World} {F:List Nat} {c:Value} {C:List Nat→List Value→Prop} (h:slc n nl w F c C) (hC:∀ Fi xs,C Fi xs→∀ b∈Fi,b<w.heap.size):∀ b∈F,b<w.heap.size:=by
 obtain ⟨a,cap,Fi,xs,hc,h1,h2,h3,h4⟩:=h
 intro c hm
 rcases h4 with ⟨hn,rfl⟩ | ⟨b,o,ha,hF,hr,hb⟩
 · cases hm
 subst hF
 rcases List.mem_cons.1 hm with rfl | hm
 · exact hb
 exact hC _ _ h3 c hm
mutual
def zkq:DStmt→List Nat→World→List Value→Prop
  | .mk k s t bs es,F,w,cs=>∃ Ft ct Fb cb Fe ce,F=Ft++(Fb++Fe)∧cs=.int .i64 k :: .string s :: (ct++[cb,ce])∧I64 k∧s.size≤maxLen∧rep Ft w ct t ∧
    slc bs.length (bs=[]) w Fb cb (fun Fi xs=>zbS bs Fi w xs)∧slc es.length (es=[]) w Fe ce (fun Fi xs=>zbS es Fi w xs)
def zbS:List DStmt→List Nat→World→List Value→Prop
  | [],F,_,xs=>F=[]∧xs=[]
  | y :: ys,F,w,xs=>∃ F1 F2 c1 c2,F=F1++F2∧xs=c1++c2∧zkq y F1 w c1∧zbS ys F2 w c2
end
theorem zhy {l:List DStmt} (h:l=[]) {w:World} (Fi:List Nat) (xs:List Value) (hc:zbS l Fi w xs):Fi=[]:=by
 subst h;rw [zbS] at hc;exact hc.1
theorem zpd {t:DStmt} {F:List Nat} {w:World} {cs:List Value} (h:zkq t F w cs):cs.length=8:=by
 cases t;rw [zkq] at h;obtain ⟨Ft,ct,Fb,cb,Fe,ce,_,rfl,_,_,ht,_⟩:=h
 have:=Rep.len ht
 simp only [List.length_cons,List.length_append,List.length_nil,this];rfl
theorem zpe {t:DStmt} {F:List Nat} {w:World} {cs:List Value} (h:zkq t F w cs):∀ v∈cs,v.oneCell'=true:=by
 cases t;rw [zkq] at h;obtain ⟨Ft,ct,Fb,cb,Fe,ce,_,rfl,_,_,ht,hb,he⟩:=h
 intro v hv
 simp only [List.mem_cons,List.mem_append,List.not_mem_nil,or_false] at hv
 rcases hv with rfl | rfl | hv | rfl | rfl
 · rfl
 · rfl
 · exact Rep.one ht v hv
 · exact znI hb
 exact znI he
mutual
theorem zjm:∀ (t:DStmt) {F:List Nat} {w w':World} {cs:List Value},zkq t F w cs→(∀ b∈F,w'.heap[b]?=w.heap[b]?)→zkq t F w' cs
  | .mk k s t bs es,F,w,w',cs,h,hk=>by
    rw [zkq] at h ⊢
    obtain ⟨Ft,ct,Fb,cb,Fe,ce,hF,hcs,i1,i2,ht,hb,he⟩:=h
    subst hF
    exact ⟨Ft,ct,Fb,cb,Fe,ce,rfl,hcs,i1,i2,Rep.keep ht fun b hb=>hk b (by simp [hb]),
      zls hb (fun b hb=>hk b (by simp [hb])) (fun Fi xs hc hx=>zeJ bs hc hx) fun h=>zhy h,
      zls he (fun b hb=>hk b (by simp [hb])) (fun Fi xs hc hx=>zeJ es hc hx) fun h=>zhy h⟩
theorem zeJ:∀ (l:List DStmt) {F:List Nat} {w w':World} {cs:List Value},zbS l F w cs→(∀ b∈F,w'.heap[b]?=w.heap[b]?)→zbS l F w' cs
  | [],F,w,w',cs,h,_=>by rw [zbS] at h ⊢;exact h
  | y :: ys,F,w,w',cs,h,hk=>by
    rw [zbS] at h ⊢
    obtain ⟨F1,F2,c1,c2,rfl,rfl,h1,h2⟩:=h
    exact ⟨F1,F2,c1,c2,rfl,rfl,zjm y h1 fun b hb=>hk b (by simp [hb]),zeJ ys h2 fun b hb=>hk b (by simp [hb])⟩
end
mutual
theorem znJ:∀ (t:DStmt) {F:List Nat} {w:World} {cs:List Value},zkq t F w cs→∀ b∈F,b<w.heap.size
  | .mk k s t bs es,F,w,cs,h,c,hm=>by
    rw [zkq] at h
    obtain ⟨Ft,ct,Fb,cb,Fe,ce,hF,hcs,i1,i2,ht,hb,he⟩:=h
    subst hF
    rcases List.mem_append.1 hm with hm | hm
    · exact Rep.lt ht c hm
    rcases List.mem_append.1 hm with hm | hm
    · exact zpS hb (fun Fi xs hc=>zgS bs hc) c hm
    exact zpS he (fun Fi xs hc=>zgS es hc) c hm
theorem zgS:∀ (l:List DStmt) {F:List Nat} {w:World} {cs:List Value},zbS l F w cs→∀ b∈F,b<w.heap.size
  | [],F,w,cs,h,c,hm=>by rw [zbS] at h;rw [h.1] at hm;cases hm
  | y :: ys,F,w,cs,h,c,hm=>by
    rw [zbS] at h
    obtain ⟨F1,F2,c1,c2,rfl,rfl,h1,h2⟩:=h
    rcases List.mem_append.1 hm with hm | hm
    · exact znJ y h1 c hm
    exact zgS ys h2 c hm
end
instance:Rep DStmt where
 size:=8
 agg:=true
 rep F w cs x:=zkq x F w cs
 pos:=by decide
 sz h:=by cases h
 len h:=zpd h
 one h:=zpe h
 keep h hk:=zjm _ h hk
 lt h:=znJ _ h
theorem zff {w:World}:∀ {l:List DStmt} {F:List Nat} {xs:List Value},zbS l F w xs↔Cells F w xs l
 | [],F,xs=>by rw [zbS];exact Iff.rfl
 | y :: ys,F,xs=>by
   rw [zbS]
   constructor
   · rintro ⟨F1,F2,c1,c2,h1,h2,h3,h4⟩;exact ⟨F1,F2,c1,c2,h1,h2,h3,zff.1 h4⟩
   rintro ⟨F1,F2,c1,c2,h1,h2,h3,h4⟩;exact ⟨F1,F2,c1,c2,h1,h2,h3,zff.2 h4⟩
theorem zip {w:World} {F:List Nat} {c:Value} {l:List DStmt}:slc l.length (l=[]) w F c (fun Fi xs=>zbS l Fi w xs)↔rep F w [c] l:=by
 constructor
 · rintro ⟨a,cap,Fi,xs,rfl,h1,h2,h3,h4⟩
   exact ⟨a,cap,Fi,xs,rfl,h1,h2,zff.1 h3,h4⟩
 rintro ⟨a,cap,Fi,xs,hc,h1,h2,h3,h4⟩
 exact ⟨a,cap,Fi,xs,by simpa using hc,h1,h2,zff.2 h3,h4⟩
theorem zcT {w:World} {F:List Nat} {cs:List Value} {l:List DStmt} (h:rep F w cs l):∃ c,cs=[c]:=by
 obtain ⟨a,cap,Fi,xs,rfl,_⟩:=h;exact ⟨_,rfl⟩
theorem zcU {w:World} {F:List Nat} {cs:List Value} {t:DStmt}:rep F w cs t↔rep F w cs t.tup:=by
 obtain ⟨k,s,t,bs,es⟩:=t
 show zkq _ F w cs↔_
 rw [zkq]
 constructor
 · rintro ⟨Ft,ct,Fb,cb,Fe,ce,rfl,rfl,i1,i2,ht,hb,he⟩
   exact ⟨[],_,[.int .i64 k],_,rfl,rfl,⟨rfl,rfl,i1⟩,[],_,[.string s],_,rfl,rfl,⟨rfl,rfl,i2⟩,Ft,Fb++Fe,ct,[cb,ce],rfl,rfl,ht,Fb,Fe,[cb],[ce],rfl,rfl,zip.1 hb,zip.1 he⟩
 rintro ⟨_,_,_,_,rfl,rfl,⟨rfl,rfl,i1⟩,_,_,_,_,rfl,rfl,⟨rfl,rfl,i2⟩,Ft,_,ct,_,rfl,rfl,ht,Fb,Fe,c1,c2,rfl,rfl,hb,he⟩
 obtain ⟨cb,rfl⟩:=zcT hb
 obtain ⟨ce,rfl⟩:=zcT he
 exact ⟨Ft,ct,Fb,cb,Fe,ce,rfl,rfl,i1,i2,ht,zip.2 hb,zip.2 he⟩
theorem znK {w:World} {b o:Nat} {t:DStmt}:At w b o t↔At w b o t.tup:=
 ⟨fun ⟨F,cs,h,k⟩=>⟨F,cs,zcU.1 h,k⟩,fun ⟨F,cs,h,k⟩=>⟨F,cs,zcU.2 h,k⟩⟩
section
variable {w:World} {b o:Nat} {x:DStmt}
theorem zdh (h:At w b o x):At w b (o+0) x.kind:=zbE (α:=Int) (β:=ByteArray×DTerm×List DStmt×List DStmt) (p:=x.tup) (znK.1 h)
theorem zrC (h:At w b o x):At w b (o+1) (x.name,x.term,x.body,x.els):=zaL (α:=Int) (β:=ByteArray×DTerm×List DStmt×List DStmt) (p:=x.tup) (znK.1 h)
theorem zbg (h:At w b o x):At w b (o+1) x.name:=zbE (α:=ByteArray) (β:=DTerm×List DStmt×List DStmt) (p:=(x.name,x.term,x.body,x.els)) (zrC h)
theorem zrD (h:At w b o x):At w b (o+2) (x.term,x.body,x.els):=zaL (α:=ByteArray) (β:=DTerm×List DStmt×List DStmt) (p:=(x.name,x.term,x.body,x.els)) (zrC h)
theorem zbA (h:At w b o x):At w b (o+2) x.term:=zbE (α:=DTerm) (β:=List DStmt×List DStmt) (p:=(x.term,x.body,x.els)) (zrD h)
theorem zrE (h:At w b o x):At w b (o+6) (x.body,x.els):=zaL (α:=DTerm) (β:=List DStmt×List DStmt) (p:=(x.term,x.body,x.els)) (zrD h)
theorem zb0 (h:At w b o x):At w b (o+6) x.body:=zbE (α:=List DStmt) (β:=List DStmt) (p:=(x.body,x.els)) (zrE h)
theorem zbL (h:At w b o x):At w b (o+7) x.els:=zaL (α:=List DStmt) (β:=List DStmt) (p:=(x.body,x.els)) (zrE h)
theorem znL {F0:List Nat} {c0:List Value} (h0:rep F0 w c0 x.kind) {F1:List Nat} {c1:List Value} (h1:rep F1 w c1 x.name) {F2:List Nat} {c2:List Value} (h2:rep F2 w c2 x.term) {F3:List Nat} {c3:List Value} (h3:rep F3 w c3 x.body) {F4:List Nat} {c4:List Value} (h4:rep F4 w c4 x.els) :
   rep (F0++(F1++(F2++(F3++F4)))) w (c0++(c1++(c2++(c3++c4)))) x:=zcU.2 (zaj h0 (zaj h1 (zaj h2 (zaj h3 h4))))
end
instance:RepZ DStmt:=⟨.mk 0 ByteArray.empty RepZ.zv [] [],RepZ.zc (Int×ByteArray×DTerm×List DStmt×List DStmt),fun w=>zcU.2 (RepZ.zr (α:=Int×ByteArray×DTerm×List DStmt×List DStmt) w)⟩
section
variable {γ:Type} {H:List Nat→World→γ→Prop} {F:List Nat} {w:World} {b o:Nat} {G:List Nat} {x:DStmt} {upd:DStmt→γ}
end
structure DProc where
 name:ByteArray
 body:List DStmt
theorem DProc.ext_iff {x y:DProc}:x=y↔(x.name=y.name∧x.body=y.body):=⟨fun h=>by rw [h];exact ⟨rfl,rfl⟩,fun h=>by obtain ⟨h0,h1⟩:=h;cases x;cases y;simp only at h0 h1;simp only [h0,h1]⟩
instance:Rep DProc:=Rep.via fun x=>(x.name,x.body)
theorem zhz {w:World} {b o:Nat} {x:DProc} (h:At w b o x):At w b (o+0) x.name:=zbE (α:=ByteArray) (β:=(List DStmt)) (p:=(x.name,x.body)) h
theorem zhA {w:World} {b o:Nat} {x:DProc} (h:At w b o x):At w b (o+1) x.body:=zaL (α:=ByteArray) (β:=(List DStmt)) (p:=(x.name,x.body)) h
instance:RepZ DProc:=⟨⟨(RepZ.zv:ByteArray),(RepZ.zv:List DStmt)⟩,RepZ.zc (ByteArray×(List DStmt)),fun w=>RepZ.zr (α:=ByteArray×(List DStmt)) w⟩
structure DProg where
 globals:List ByteArray
 locks:List ByteArray
 procs:List DProc
theorem DProg.ext_iff {x y:DProg}:x=y↔(x.globals=y.globals∧x.locks=y.locks∧x.procs=y.procs):=⟨fun h=>by rw [h];exact ⟨rfl,rfl,rfl⟩,fun h=>by obtain ⟨h0,h1,h2⟩:=h;cases x;cases y;simp only at h0 h1 h2;simp only [h0,h1,h2]⟩
instance:Rep DProg:=Rep.via fun x=>(x.globals,x.locks,x.procs)
theorem zdi {w:World} {b o:Nat} {x:DProg} (h:At w b o x):At w b (o+0) x.globals:=zbE (α:=List ByteArray) (β:=(List ByteArray)×(List DProc)) (p:=(x.globals,x.locks,x.procs)) h
theorem zej {w:World} {b o:Nat} {x:DProg} (h:At w b o x):At w b (o+1) x.locks:=zbE (α:=List ByteArray) (β:=(List DProc)) (p:=(x.locks,x.procs)) (zaL (α:=List ByteArray) (β:=(List ByteArray)×(List DProc)) (p:=(x.globals,x.locks,x.procs)) h)
theorem zdj {w:World} {b o:Nat} {x:DProg} (h:At w b o x):At w b (o+2) x.procs:=zaL (α:=List ByteArray) (β:=(List DProc)) (p:=(x.locks,x.procs)) (zaL (α:=List ByteArray) (β:=(List ByteArray)×(List DProc)) (p:=(x.globals,x.locks,x.procs)) h)
instance:RepZ DProg:=⟨⟨(RepZ.zv:List ByteArray),(RepZ.zv:List ByteArray),(RepZ.zv:List DProc)⟩,RepZ.zc ((List ByteArray)×(List ByteArray)×(List DProc)),fun w=>RepZ.zr (α:=(List ByteArray)×(List ByteArray)×(List DProc)) w⟩
section
variable {w:World} {lo hi:Nat}
theorem zdZ {k n:Int} {s:ByteArray} {v:Value} {l:List DTerm} (hk:I64 k) (hn:I64 n) (hs:s.size≤maxLen) (h:OwnI lo hi w v l):OwnI lo hi w (.agg #[.int .i64 k,.int .i64 n,.string s,v]) (DTerm.mk k n s l):=by
 obtain ⟨F,⟨⟨cs,hr,rfl⟩,hnd,hw⟩,hF⟩:=h
 obtain ⟨a,cap,Fi,xs,rfl,h1,h2,hc,h4⟩:=hr
 exact ⟨F,⟨⟨_,zmR (x:=.mk k n s l) (F0:=[]) (F1:=[]) (F2:=[]) ⟨rfl,rfl,hk⟩ ⟨rfl,rfl,hn⟩ ⟨rfl,rfl,hs⟩ ⟨a,cap,Fi,xs,rfl,h1,h2,hc,h4⟩,rfl⟩,hnd,hw⟩,hF⟩
theorem zhB {v:Value} {t:DTerm} (h:Is w v t):∃ a cap,v=.agg #[.int .i64 t.kind,.int .i64 t.num,.string t.name,.slice a t.kids.length cap]:=by
 obtain ⟨F,cs,hr,rfl⟩:=h
 obtain ⟨k,n,s,ks⟩:=t
 rw [show rep F w cs (DTerm.mk k n s ks)=zjW (.mk k n s ks) F w cs from rfl,zjW] at hr
 obtain ⟨a,cap,Fi,xs,rfl,_⟩:=hr
 exact ⟨a,cap,rfl⟩
theorem znM {k:Int} {s:ByteArray} {t:DTerm} {vb ve:Value} {bs es:List DStmt} {tc:Array Value} {l0 h0 l1 h1 l2 h2:Nat} (hk:I64 k) (hs:s.size≤maxLen) (ht:OwnI l0 h0 w (.agg tc) t) (hb:OwnI l1 h1 w vb bs) (he:OwnI l2 h2 w ve es)
   (d01:h0≤l1∨h1≤l0) (d02:h0≤l2∨h2≤l0) (d12:h1≤l2∨h2≤l1) (b0:lo≤l0∧h0≤hi) (b1:lo≤l1∧h1≤hi) (b2:lo≤l2∧h2≤hi) :
   OwnI lo hi w (.agg ([Value.int .i64 k,Value.string s]++tc.toList++[vb,ve]).toArray) (DStmt.mk k s t bs es):=by
 obtain ⟨F0,⟨⟨c0,r0,e0⟩,n0,w0⟩,B0⟩:=ht
 obtain ⟨F1,⟨⟨c1,r1,e1⟩,n1,w1⟩,B1⟩:=hb
 obtain ⟨F2,⟨⟨c2,r2,e2⟩,n2,w2⟩,B2⟩:=he
 have ht0:tc.toList=c0:=by
   simp only [mkv,Rep.agg,cond_true,Value.agg.injEq] at e0
   rw [e0]
 obtain ⟨cb,rfl⟩:=zcT r1
 obtain ⟨ce,rfl⟩:=zcT r2
 simp only [mkv,Rep.agg,cond_false,List.headD_cons] at e1 e2
 subst e1 e2
 refine ⟨F0++(F1++F2),⟨⟨_,znL (x:=.mk k s t bs es) (F0:=[]) (F1:=[]) ⟨rfl,rfl,hk⟩ ⟨rfl,rfl,hs⟩ r0 r1 r2,?_⟩,?_,w0.append (w1.append w2)⟩,fun x hx=>?_⟩
 · rw [ht0];simp [mkv,Rep.agg,DStmt.kind,DStmt.name]
 · rw [List.nodup_append,List.nodup_append]
   refine ⟨n0,⟨n1,n2,fun p hp q hq e=>?_⟩,fun p hp q hq e=>?_⟩
   · subst e;have:=B1 p hp;have:=B2 p hq;omega
   subst e
   have:=B0 p hp
   rcases List.mem_append.1 hq with hq | hq
   · have:=B1 p hq;omega
   have:=B2 p hq;omega
 rcases List.mem_append.1 hx with hx | hx
 · have:=B0 x hx;omega
 rcases List.mem_append.1 hx with hx | hx
 · have:=B1 x hx;omega
 have:=B2 x hx;omega
end
end Go.Sh
namespace Go.Sh
open Rep (rep)
def zjH (x:Int):Int:=IntKind.i64.wrap x
def zma (a b:Int):Int:=zjH ((BitVec.ofInt 64 a &&& BitVec.ofInt 64 b).toNat:Nat)
def zr0 (a b:Int):Int:=zjH ((BitVec.ofInt 64 a ^^^ BitVec.ofInt 64 b).toNat:Nat)
def zrF (a:Int) (n:Nat):Int:=a.fdiv (2^(min n 64))
theorem zqE (x:Int):I64 (zjH x):=by
 have e:zjH x=if x%18446744073709551616≥9223372036854775808 then x%18446744073709551616-18446744073709551616 else x%18446744073709551616:=by
   simp [zjH,IntKind.wrap,IntKind.signed,IntKind.bits]
 unfold I64
 rw [e]
 split<;>omega
theorem znN {x:Int} (h:I64 x):zjH x=x:=IntWalk.i64_in _ h
theorem ziq (a:Int) {n:Nat} (hn:n<9223372036854775808):0≤zma a n∧zma a n≤n:=by
 have h1:(BitVec.ofInt 64 a &&& BitVec.ofInt 64 (n:Int)).toNat≤n:=by
   rw [BitVec.toNat_and]
   refine Nat.le_trans Nat.and_le_right ?_
   rw [BitVec.ofInt_natCast,BitVec.toNat_ofNat,Nat.mod_eq_of_lt (by omega)]
   exact Nat.le_refl _
 unfold zma
 rw [znN (by unfold I64;omega)]
 omega
section
variable {P:Program} {w:World} {K:Value→Prop} {t:TypeId} {x y:Operand} {a b:Int}
theorem znO (k:K (.int .i64 (zjH (a+b)))):RD P (bin .add t x y (.int .i64 a) (.int .i64 b)) w K:=
 zaF (fun w' _=>by simp [bin,eqGuard,binOp,Op.intArith,zjH]) k
theorem zqF (k:K (.int .i64 (zjH (a*b)))):RD P (bin .mul t x y (.int .i64 a) (.int .i64 b)) w K:=
 zaF (fun w' _=>by simp [bin,eqGuard,binOp,Op.intArith,zjH]) k
theorem zkr (k:K (.int .i64 (zma a b))):RD P (bin .and t x y (.int .i64 a) (.int .i64 b)) w K:=by
 refine zaF (fun w' _=>?_) k
 show (do eqGuard .and t x y (.int .i64 a) (.int .i64 b);binOp .and t (.int .i64 a) (.int .i64 b):Sem Value).run P w'=_
 simp only [eqGuard,binOp,Op.intBits]
 rfl
theorem zqG (k:K (.int .i64 (zr0 a b))):RD P (bin .xor t x y (.int .i64 a) (.int .i64 b)) w K:=by
 refine zaF (fun w' _=>?_) k
 show (do eqGuard .xor t x y (.int .i64 a) (.int .i64 b);binOp .xor t (.int .i64 a) (.int .i64 b):Sem Value).run P w'=_
 simp only [eqGuard,binOp,Op.intBits]
 rfl
theorem znP {n:Nat} {ku:IntKind} (k:K (.int .i64 (zrF a n))):RD P (bin .shr t x y (.int .i64 a) (.int ku (n:Int))) w K:=by
 refine zaF (fun w' _=>?_) k
 have e0:¬((n:Int)<0):=by omega
 show (do eqGuard .shr t x y (.int .i64 a) (.int ku (n:Int));binOp .shr t (.int .i64 a) (.int ku (n:Int)):Sem Value).run P w'=_
 simp only [eqGuard,binOp,Op.shift,e0,if_false,Int.toNat_natCast]
 rfl
theorem znQ {src dst:TypeId} {n:Nat} (hs:(P.underlying src).isSome=true) (hd:P.underlying dst=some (.int .i64)) (hn:n<256) (k:K (.int .i64 (n:Int))):RD P (convert src dst (.int .u8 (n:Int))) w K:=by
 refine zaF (fun w' _=>?_) k
 obtain ⟨d,hd'⟩:=Option.isSome_iff_exists.mp hs
 have:IntKind.i64.wrap (n:Int)=n:=IntWalk.i64_in _ (by omega)
 simp [convert,run_underlying hd',run_underlying hd,Conv.intToInt,this]
end
theorem znR {a n:Int} (h0:0≤a) (hn:0<n):0≤a.tmod n∧a.tmod n<n:=by
 rw [Int.tmod_eq_emod_of_nonneg h0]
 exact ⟨Int.emod_nonneg _ (by omega),Int.emod_lt_of_pos _ hn⟩
end Go.Sh
namespace Go.Proofs.YtcnglfeoglgebaaGreat
open Go Go.Sh Go.Proofs
open Rep (rep)
structure Cur where
 i:Nat
 h:Int
def zmb (h:Int):Int:=zjH (zjH (h*6364136223846793005)+1442695040888963407)
def zpf (h:Int):Int:=zma (zr0 (zrF h 33) (zrF h 45)) 255
def zfD (bs:List UInt8) (s:Cur):Int:=match bs[s.i]? with
 | some b=>zma (zpf (zmb s.h)+(b.toNat:Int)) 255
 | none=>zpf (zmb s.h)
def zbP (bs:List UInt8) (s:Cur):Cur:=⟨if s.i<bs.length then s.i+1 else s.i,zmb s.h⟩
theorem zcV (bs:List UInt8) (s:Cur):0≤zfD bs s∧zfD bs s≤255:=by
 unfold zfD zpf
 split
 · exact ziq _ (n:=255) (by omega)
 exact ziq _ (n:=255) (by omega)
def zsk (a b c d:Int):Int:=a*16777216+b*65536+c*256+d
def zcW (bs:List UInt8) (n:Int) (s:Cur):Int:=
 if n≤0 then 0 else if n≤256 then (zfD bs s).tmod n
 else (zsk (zfD bs s) (zfD bs (zbP bs s)) (zfD bs (zbP bs (zbP bs s))) (zfD bs (zbP bs (zbP bs (zbP bs s))))).tmod n
def zav (bs:List UInt8) (n:Int) (s:Cur):Cur:=
 if n≤0 then s else if n≤256 then zbP bs s else zbP bs (zbP bs (zbP bs (zbP bs s)))
theorem zcM (bs:List UInt8) {n:Int} (hn:0<n) (s:Cur):0≤zcW bs n s∧zcW bs n s<n:=by
 have h1:=zcV bs s
 have h2:=zcV bs (zbP bs s)
 have h3:=zcV bs (zbP bs (zbP bs s))
 have h4:=zcV bs (zbP bs (zbP bs (zbP bs s)))
 unfold zcW
 rw [if_neg (by omega)]
 split
 · exact znR h1.1 hn
 exact znR (by unfold zsk;omega) hn
theorem zlt (bs:List UInt8) {n:Nat} (hn:0<n) (s:Cur):(zcW bs (n:Int) s).toNat<n:=by
 have:=zcM bs (n:=(n:Int)) (by omega) s;omega
def zfS (bs:List UInt8) (l:List ByteArray) (s:Cur):ByteArray:=l.getD (zcW bs (l.length:Int) s).toNat (ByteArray.mk #[])
def zfE (bs:List UInt8) (l:List Int) (s:Cur):Int:=l.getD (zcW bs (l.length:Int) s).toNat 0
theorem zlu {α:Type} {l:List α} {i:Nat} {d:α} (h:i<l.length):l.getD i d∈l:=by
 rw [List.getD_eq_getElem?_getD,List.getElem?_eq_getElem h];exact List.getElem_mem h
theorem zgT (bs:List UInt8) {l:List ByteArray} (h:0<l.length) (s:Cur):zfS bs l s∈l:=zlu (zlt bs h s)
theorem zgU (bs:List UInt8) {l:List Int} (h:0<l.length) (s:Cur):zfE bs l s∈l:=zlu (zlt bs h s)
def nX:ByteArray:=ByteArray.mk #[120]
def nY:ByteArray:=ByteArray.mk #[121]
def nZ:ByteArray:=ByteArray.mk #[122]
def nU:ByteArray:=ByteArray.mk #[117]
def nA:ByteArray:=ByteArray.mk #[97]
def nB:ByteArray:=ByteArray.mk #[98]
def nM:ByteArray:=ByteArray.mk #[109]
def nP:ByteArray:=ByteArray.mk #[112]
def nQ:ByteArray:=ByteArray.mk #[113]
def nR:ByteArray:=ByteArray.mk #[114]
def nO:ByteArray:=ByteArray.mk #[]
def zqH:List Int:=[0,1,2,3,7,999,1000,1000000000]
def zmr:List ByteArray:=[nX,nY,nZ,nX,nU]
def opL:List Int:=[3,4,5,6,7,9]
def glb:List ByteArray:=[nX,nY,nZ,nU]
def lks:List ByteArray:=[nA,nB,nM]
def prc4:List ByteArray:=[zbz,nP,nQ,nR]
def zcN (bs:List UInt8) (d:Nat) (s:Cur):Int:=if d=0∧6≤zcW bs 12 s then zcW bs 12 s-6 else zcW bs 12 s
def zam (bs:List UInt8):Nat→Cur→DTerm×Cur
 | 0,s=>
   if zcN bs 0 s<3 then (.mk 1 (zfE bs zqH (zav bs 12 s)) nO [],zav bs 8 (zav bs 12 s))
   else (.mk 2 0 (zfS bs zmr (zav bs 12 s)) [],zav bs 5 (zav bs 12 s))
 | d+1,s=>
   if zcN bs (d+1) s<3 then (.mk 1 (zfE bs zqH (zav bs 12 s)) nO [],zav bs 8 (zav bs 12 s))
   else if zcN bs (d+1) s<6 then (.mk 2 0 (zfS bs zmr (zav bs 12 s)) [],zav bs 5 (zav bs 12 s))
   else if zcN bs (d+1) s=6 then (.mk 8 0 nO [(zam bs d (zav bs 12 s)).1],(zam bs d (zav bs 12 s)).2)
   else (.mk (zfE bs opL (zav bs 12 s)) 0 nO [(zam bs d (zav bs 6 (zav bs 12 s))).1,(zam bs d (zam bs d (zav bs 6 (zav bs 12 s))).2).1],
     (zam bs d (zam bs d (zav bs 6 (zav bs 12 s))).2).2)
theorem zqI (bs:List UInt8) (s:Cur):0≤zcN bs 0 s∧zcN bs 0 s<6:=by
 have:=zcM bs (n:=12) (by omega) s
 unfold zcN
 split<;>omega
theorem zlv {x:ByteArray} (h:x∈zmr):x∈glb:=by
 simp only [zmr,List.mem_cons,List.not_mem_nil,or_false] at h
 rcases h with rfl | rfl | rfl | rfl | rfl<;>decide
theorem zir {x:ByteArray} (h:x∈glb):za9 x=true:=by
 simp only [glb,List.mem_cons,List.not_mem_nil,or_false] at h
 rcases h with rfl | rfl | rfl | rfl<;>decide
theorem zis {x:ByteArray} (h:x∈lks):za9 x=true:=by
 simp only [lks,List.mem_cons,List.not_mem_nil,or_false] at h
 rcases h with rfl | rfl | rfl<;>decide
theorem zqJ {n:Int} (h:n∈zqH):0≤n∧n≤1000000000:=by
 simp only [zqH,List.mem_cons,List.not_mem_nil,or_false] at h
 omega
theorem zpT {n:Int} (h:n∈opL):3≤n∧n≤9∧n≠8:=by
 simp only [opL,List.mem_cons,List.not_mem_nil,or_false] at h
 omega
theorem znS (bs:List UInt8) (n:Nat) (s:Cur):zaX n (.mk 1 (zfE bs zqH s) nO [])=true:=by
 rw [zea rfl]
 have:=zqJ (zgU bs (l:=zqH) (by decide) s)
 simp [DTerm.num,DTerm.name,DTerm.kids,this,nO]
theorem znT (bs:List UInt8) (n:Nat) (s:Cur):zaX n (.mk 2 0 (zfS bs zmr s) [])=true:=by
 rw [zfX rfl]
 have:=zir (zlv (zgT bs (l:=zmr) (by decide) s))
 simp [DTerm.num,DTerm.name,DTerm.kids,this]
theorem zeK (bs:List UInt8):∀ (d n:Nat) (s:Cur),d≤n→zaX n (zam bs d s).1=true
 | 0,n,s,_=>by
   rw [zam]
   split
   · exact znS bs n _
   exact znT bs n _
 | d+1,0,s,h=>absurd h (by omega)
 | d+1,n+1,s,h=>by
   rw [zam]
   split
   · exact znS bs _ _
   split
   · exact znT bs _ _
   split
   · rw [zba (by show ¬(8:Int)=1;omega) (by show ¬(8:Int)=2;omega)]
     simp [DTerm.kind,DTerm.num,DTerm.name,DTerm.kids,nO,zeK bs d n _ (by omega)]
   have:=zpT (zgU bs (l:=opL) (by decide) (zav bs 12 s))
   generalize zfE bs opL (zav bs 12 s)=k at *
   rw [zba (by simp only [DTerm.kind];omega) (by simp only [DTerm.kind];omega)]
   simp [DTerm.kind,DTerm.num,DTerm.name,DTerm.kids,nO,zeK bs d n _ (by omega:d≤n),this.1,this.2.1,this.2.2]
theorem zpg {l:List ByteArray} {s x:ByteArray} (h:x∈zok l s):x∈l∨x=s:=by
 unfold zok at h
 split at h
 · exact .inl h
 simpa using h
theorem zhb (bs:List UInt8):∀ (d n:Nat) (s:Cur) (l:List ByteArray) (x:ByteArray),d≤n→x∈readsT n (zam bs d s).1 l→x∈l∨x∈glb:=by
 have h1:∀ n k l x,x∈readsT n (.mk 1 k nO []) l→x∈l:=by
   intro n k l x h
   rw [zbW,if_neg (by show ¬(1:Int)=2;omega)] at h
   cases n with
   | zero=>exact h
   | succ n=>exact h
 have h2:∀ n s l x,x∈readsT n (.mk 2 0 (zfS bs zmr s) []) l→x∈l∨x∈glb:=by
   intro n s l x h
   rw [zk0 rfl] at h
   rcases zpg h with h | rfl
   · exact .inl h
   exact .inr (zlv (zgT bs (by decide) s))
 intro d
 induction d with
 | zero=>
   intro n s l x _ h
   rw [zam] at h
   split at h
   · exact .inl (h1 _ _ _ _ h)
   exact h2 _ _ _ _ h
 | succ d ih=>
   intro n s l x hd h
   obtain ⟨n,rfl⟩:∃ m,n=m+1:=⟨n-1,by omega⟩
   rw [zam] at h
   split at h
   · exact .inl (h1 _ _ _ _ h)
   split at h
   · exact h2 _ _ _ _ h
   split at h
   · rw [zbW,if_neg (by show ¬(8:Int)=2;omega)] at h
     simp only [DTerm.kids,List.foldl_cons,List.foldl_nil] at h
     exact ih n _ _ _ (by omega) h
   have hk:=zpT (zgU bs (l:=opL) (by decide) (zav bs 12 s))
   generalize zfE bs opL (zav bs 12 s)=k at *
   rw [zbW,if_neg (by show ¬k=2;omega)] at h
   simp only [DTerm.kids,List.foldl_cons,List.foldl_nil] at h
   rcases ih n _ _ _ (by omega) h with h | h
   · exact ih n _ _ _ (by omega) h
   exact .inr h
theorem zmc (k n:Int) (s:ByteArray) (l:List DTerm):wT (.mk k n s l)=s.size+(l.length+sm wT l):=by
 rw [zqi,zmX];rfl
theorem zmd (bs:List UInt8):∀ (d:Nat) (s:Cur),wT (zam bs d s).1+2≤3*2^d:=by
 have h0:nO.size=0:=rfl
 have h2:∀ s,(zfS bs zmr s).size≤1:=fun s=>by
   have:=zgT bs (l:=zmr) (by decide) s
   generalize zfS bs zmr s=x at *
   simp only [zmr,List.mem_cons,List.not_mem_nil,or_false] at this
   rcases this with rfl | rfl | rfl | rfl | rfl<;>decide
 intro d
 induction d with
 | zero=>
   intro s
   rw [zam]
   split
   · rw [zmc];simp [h0,sm]
   rw [zmc];have:=h2 (zav bs 12 s);simp [sm];omega
 | succ d ih=>
   intro s
   have hp:1≤2^d:=Nat.one_le_two_pow
   rw [zam,Nat.pow_succ]
   split
   · rw [zmc];simp [h0,sm];omega
   split
   · rw [zmc];have:=h2 (zav bs 12 s);simp [sm];omega
   split
   · rw [zmc];have:=ih (zav bs 12 s);simp [sm,h0];omega
   rw [zmc];have:=ih (zav bs 6 (zav bs 12 s));have:=ih (zam bs d (zav bs 6 (zav bs 12 s))).2;simp [sm,h0];omega
def TmR (gl:List ByteArray) (t:DTerm):Prop:=zaX 6 t=true∧(∀ s∈zbn t,s∈gl)∧wT t≤24
theorem zme (bs:List UInt8) {d:Nat} (hd:d≤3) (s:Cur):TmR glb (zam bs d s).1:=by
 have h:=zeK bs d 6 s (by omega)
 refine ⟨h,fun x hx=>?_,?_⟩
 · unfold zbn at hx
   rw [if_pos h] at hx
   rcases zhb bs d 6 s [] x (by omega) hx with h | h
   · cases h
   exact h
 have h1:=zmd bs d s
 have h2:2^d≤2^3:=Nat.pow_le_pow_right (by omega) hd
 omega
structure Scp where
 gl:List ByteArray
 lk:List ByteArray
 pr:List ByteArray
def St0 (c:Scp) (t:DStmt):Prop:=(t.kind=1∧t.name∈c.gl∧TmR c.gl t.term∧t.body=[]∧t.els=[])∨((t.kind=4∨t.kind=5)∧t.name∈c.pr∧t.term=zaM∧t.body=[]∧t.els=[]) ∨
   ((t.kind=6∨t.kind=7)∧t.name∈c.lk∧t.term=zaM∧t.body=[]∧t.els=[])∨(t.kind=8∧t.name=nO∧t.term=zaM∧t.body=[]∧t.els=[])
def StR (c:Scp):Nat→DStmt→Prop
 | 0,t=>St0 c t
 | n+1,t=>St0 c t∨((t.kind=2∨t.kind=3∧t.els=[])∧t.name=nO∧TmR c.gl t.term∧(∀ x∈t.body,StR c n x)∧∀ x∈t.els,StR c n x)
theorem StR.base {c:Scp}:∀ {n:Nat} {t:DStmt},St0 c t→StR c n t
 | 0,t,h=>by rw [StR];exact h
 | n+1,t,h=>by rw [StR];exact .inl h
theorem StR.more {c:Scp} {n:Nat} {t:DStmt} (h1:t.kind=2∨t.kind=3∧t.els=[]) (h2:t.name=nO) (h3:TmR c.gl t.term) (h4:∀ x∈t.body,StR c n x) (h5:∀ x∈t.els,StR c n x):StR c (n+1) t:=by
 rw [StR];exact .inr ⟨h1,h2,h3,h4,h5⟩
theorem StR.zero {c:Scp} {t:DStmt} (h:StR c 0 t):St0 c t:=by rw [StR] at h;exact h
theorem StR.succ {c:Scp} {n:Nat} {t:DStmt} (h:StR c (n+1) t):St0 c t∨((t.kind=2∨t.kind=3∧t.els=[])∧t.name=nO∧TmR c.gl t.term∧(∀ x∈t.body,StR c n x)∧∀ x∈t.els,StR c n x):=by
 rw [StR] at h;exact h
theorem StR.mono {c:Scp}:∀ {n m:Nat} {t:DStmt},n≤m→StR c n t→StR c m t
 | 0,m,_,_,h=>StR.base h.zero
 | n+1,0,_,h,_=>absurd h (by omega)
 | n+1,m+1,t,hn,h=>by
   rcases h.succ with h | ⟨h1,h2,h3,h4,h5⟩
   · exact StR.base h
   exact StR.more h1 h2 h3 (fun x hx=>(h4 x hx).mono (by omega)) fun x hx=>(h5 x hx).mono (by omega)
mutual
def szS:DStmt→Nat
  | .mk _ _ _ b e=>1+szL b+szL e
def szL:List DStmt→Nat
  | []=>0
  | x :: l=>szS x+szL l
end
theorem zfF:∀ (l m:List DStmt),szL (l++m)=szL l+szL m
 | [],m=>by simp [szL]
 | x :: l,m=>by rw [List.cons_append,szL,szL,zfF l m];omega
theorem znU:∀ (l:List DStmt),l.length≤szL l
 | []=>by simp
 | .mk k s t b e :: l=>by have:=znU l;rw [szL,szS,List.length_cons];omega
def znV:DStmt:=.mk 8 nO zaM [] []
def zmf (n:ByteArray):DStmt:=.mk 6 n zaM [] []
def zfG (n:ByteArray):DStmt:=.mk 7 n zaM [] []
def zdI (n:ByteArray):DStmt:=.mk 5 n zaM [] []
def zr1 (bs:List UInt8):Int:=(bs.take 4000).foldl (fun h b=>zma (h*131+(b.toNat:Int)+7) 1073741823) (94701+(bs.length:Int))
def zhC (bs:List UInt8):Cur:=⟨0,zr1 bs⟩
def zr2 (c:Scp) (l:List DStmt):Prop:=(∀ x∈l,StR c 2 x)∧szL l≤54
structure ProgR (p:DProg):Prop where
 g:p.globals=glb∨p.globals=glb.take 1
 l:p.locks=lks∨p.locks=lks.take 1∨p.locks=lks.take 2
 n:∃ k,k<4∧p.procs.map DProc.name=prc4.take (1+k)
 b:∀ x∈p.procs,zr2 ⟨p.globals,p.locks,(p.procs.map DProc.name).drop 1⟩ x.body
end Go.Proofs.YtcnglfeoglgebaaGreat
namespace Go.Sh
open Rep (rep)
section
variable {P:Program} {w:World} {α:Type} [Rep α] {e:Nat}
theorem zek {w:World}:∀ {l:List ByteArray},(∀ x∈l,x.size≤maxLen)→Cells [] w (l.map Value.string) l
 | [],_=>⟨rfl,rfl⟩
 | x :: l,h=>⟨[],[],[.string x],l.map Value.string,rfl,rfl,⟨rfl,rfl,h x (by simp)⟩,zek fun y hy=>h y (by simp [hy])⟩
theorem zfH {w:World}:∀ {l:List Int},(∀ x∈l,I64 x)→Cells [] w (l.map (Value.int .i64)) l
 | [],_=>⟨rfl,rfl⟩
 | x :: l,h=>⟨[],[],[.int .i64 x],l.map (Value.int .i64),rfl,rfl,⟨rfl,rfl,h x (by simp)⟩,zfH fun y hy=>h y (by simp [hy])⟩
theorem znW {t:TypeId} {by_ n:Nat} {z:Value} {vs:List Value} {parts:Array (Nat×Value)} {l:List α} {K:Value→World→Prop} (ht:P.underlying t=some (.slice e)) (he:tyI P e=some (1,by_,false)) (hz:zbt P e=some [z])
   (hn:0<n∧n≤1000) (hf:Instr.fill (fun i=>some (i*1,1)) ((Array.range (n*1)).map fun i=>(#[z])[i%1]!) parts.toList=some vs.toArray) (hl:l.length=n) (hc:∀ w,Cells [] w vs l)
   (k:∀ v w',Ext w w'→OwnI w.heap.size w'.heap.size w' v l→K v w'):OP P (Instr.buildSlice t n parts) w K:=by
 unfold zbt at hz
 cases hi:P.info? e with
 | none=>simp [hi] at hz
 | some i=>
   simp only [hi] at hz
   obtain ⟨v,hv,hvc⟩:=Option.map_eq_some_iff.1 hz
   have hvc':v.cells=#[z]:=Array.ext' (by simpa using hvc)
   have hB:Blk w.heap.size e (w.alloc (.cells vs.toArray e)) vs:=heap_alloc_new w _
   have hlt:w.heap.size<(w.alloc (.cells vs.toArray e)).heap.size:=hB.lt
   refine ⟨.slice (some ⟨w.heap.size,0,none⟩) n n,w.alloc (.cells vs.toArray e),?_,k _ _ (zaw w _) ⟨[w.heap.size],⟨⟨_,⟨some ⟨w.heap.size,0,none⟩,n,[],vs,rfl,by omega,by rw [zak];omega,hc _,.inr ⟨_,_,rfl,rfl,hB.range,hlt⟩⟩,by rw [hl];rfl⟩,by simp,fun b hb=>?_⟩,fun b hb=>?_⟩⟩
   · have hne:¬n*1=0:=by omega
     have h24:¬2^24<n*1:=by omega
     have hzr:(zeroValue e).run P w=.ok v w:=by simp [zeroValue,typeInfo,hi,hv]
     simp only [Instr.buildSlice,Sem.run_bind,run_underlying ht,Result.andThen_ok,zar he]
     simp only [h24,hne,if_false,Sem.run_bind,Sem.run_pure,Result.andThen_ok,hzr,hvc']
     rw [show (fun x=>(#[z]:Array Value)[x%(#[z]:Array Value).size]!)=fun i=>(#[z]:Array Value)[i%1]! from rfl,hf]
     rfl
   · simp only [List.mem_cons,List.not_mem_nil,or_false] at hb
     subst hb
     exact ⟨_,_,hB⟩
   simp only [List.mem_cons,List.not_mem_nil,or_false] at hb
   subst hb
   exact ⟨Nat.le_refl _,hlt⟩
theorem zph (u v:Value) (cells:Array Value) (s:Nat) (hu:u.cells.size=s) (hv:v.cells.size=s) (hc:cells.size=2*s) :
   Instr.fill (fun i=>some (i*s,s)) cells [(0,u),(1,v)]=some (u.cells++v.cells):=by
 have key:∀ (x:Value) (off:Nat) (cs:Array Value),x.cells.zipIdx.foldl (fun (cs:Array Value) (p:Value×Nat)=>match p with | (c,j)=>cs.setIfInBounds (off+j) c) cs
     = (x.cells.toList.zipIdx 0).foldl (fun (cs:Array Value) (p:Value×Nat)=>cs.setIfInBounds (off+p.2) p.1) cs:=by
   intro x off cs
   rw [←Array.foldl_toList,Array.toList_zipIdx]
 unfold Instr.fill
 simp only [Nat.zero_mul]
 rw [if_neg (by simp;omega)]
 rw [key]
 obtain ⟨h1,h2⟩:=zfW 0 u.cells.toList 0 cells
 generalize (u.cells.toList.zipIdx 0).foldl (fun (cs:Array Value) (p:Value×Nat)=>cs.setIfInBounds (0+p.2) p.1) cells=c1 at *
 unfold Instr.fill
 simp only [Nat.one_mul]
 rw [if_neg (by simp;omega)]
 unfold Instr.fill
 rw [key]
 obtain ⟨h3,h4⟩:=zfW s v.cells.toList 0 c1
 generalize (v.cells.toList.zipIdx 0).foldl (fun (cs:Array Value) (p:Value×Nat)=>cs.setIfInBounds (s+p.2) p.1) c1=c2 at *
 congr 1
 apply Array.ext_getElem?
 intro i
 rw [h4,h2,Array.getElem?_append]
 simp only [Array.length_toList,Nat.add_zero,Nat.zero_add,Array.getElem?_toList,Nat.sub_zero]
 by_cases hi:i<s
 · rw [if_neg (by omega),if_pos (by omega),if_pos (by omega)]
 by_cases hi2:i<2*s
 · rw [if_pos (by omega),if_neg (by omega),hu]
 rw [if_neg (by omega),if_neg (by omega),if_neg (by omega),Array.getElem?_eq_none (by omega),Array.getElem?_eq_none (by omega)]
theorem zmg {t:TypeId} {by_:Nat} {u v:Value} {x y:α} {lo l0 h0 l1 h1:Nat} {K:Value→World→Prop} (ht:P.underlying t=some (.slice e)) (he:tyI P e=some (Rep.size α,by_,Rep.agg α)) (hz:zbd P e=true) (hsz:Rep.size α≤1000)
   (hx:OwnI l0 h0 w u x) (hy:OwnI l1 h1 w v y) (hd:h0≤l1∨h1≤l0) (hl:lo≤l0∧lo≤l1∧lo≤w.heap.size)
   (k:∀ v' w',Ext w w'→OwnI lo w'.heap.size w' v' [x,y]→K v' w'):OP P (Instr.buildSlice t 2 #[(0,u),(1,v)]) w K:=by
 obtain ⟨F,⟨⟨cs,hr,rfl⟩,hn,hw⟩,hF⟩:=hx
 obtain ⟨G,⟨⟨ds,hr2,rfl⟩,hn2,hw2⟩,hG⟩:=hy
 have hlen:=Rep.len hr
 have hlen2:=Rep.len hr2
 have hcl:=zcF hr
 have hcl2:=zcF hr2
 have hvs:(mkv α cs).cells.size=Rep.size α:=by rw [←Array.length_toList,hcl,hlen]
 have hvs2:(mkv α ds).cells.size=Rep.size α:=by rw [←Array.length_toList,hcl2,hlen2]
 obtain ⟨i,d,hi,hd',hs,hby,hg⟩:=zbj he
 unfold zbd at hz
 rw [hi] at hz
 obtain ⟨z,hz⟩:=Option.isSome_iff_exists.1 hz
 have hpos:=Rep.pos (α:=α)
 have hxx:=zaw w (.cells ((mkv α cs).cells++(mkv α ds).cells) e)
 have hB:(w.alloc (.cells ((mkv α cs).cells++(mkv α ds).cells) e)).heap[w.heap.size]?=some (.cells ((mkv α cs).cells++(mkv α ds).cells) e (0,0)):=heap_alloc_new w _
 have hB':Blk w.heap.size e (w.alloc (.cells ((mkv α cs).cells++(mkv α ds).cells) e)) (cs++ds):=by
   unfold Blk;rw [hB];congr 2;apply Array.ext';simp [hcl,hcl2]
 have hlt:=hB'.lt
 have hFl:=Rep.lt hr
 have hGl:=Rep.lt hr2
 refine ⟨.slice (some ⟨w.heap.size,0,none⟩) 2 2,_,?_,k _ _ hxx ⟨w.heap.size :: (F++G),⟨⟨_,⟨some ⟨w.heap.size,0,none⟩,2,F++G,cs++ds,rfl,Nat.le_refl _,by rw [zak];omega,⟨F,G,cs,ds,rfl,rfl,zaP hr hxx,Cells.single (zaP hr2 hxx)⟩,.inr ⟨_,_,rfl,rfl,hB'.range,hlt⟩⟩,rfl⟩,?_,?_⟩,?_⟩⟩
 · have hne:¬2*Rep.size α=0:=by omega
   have h24:¬2^24<2*Rep.size α:=by omega
   have hzr:(zeroValue e).run P w=.ok z w:=by simp [zeroValue,typeInfo,hi,hz]
   simp only [Instr.buildSlice,Sem.run_bind,run_underlying ht,Result.andThen_ok,zar he]
   simp only [h24,hne,if_false,Sem.run_bind,Sem.run_pure,Result.andThen_ok,hzr]
   rw [zph _ _ _ _ hvs hvs2 (by simp)]
   rfl
 · rw [List.nodup_cons,List.nodup_append]
   refine ⟨fun hm=>?_,hn,hn2,fun p hp q hq e=>?_⟩
   · rcases List.mem_append.1 hm with hm | hm
     · exact Nat.lt_irrefl _ (hFl _ hm)
     exact Nat.lt_irrefl _ (hGl _ hm)
   subst e;have:=hF p hp;have:=hG p hq;omega
 · intro b hb
   rcases List.mem_cons.1 hb with rfl | hb
   · exact ⟨_,_,hB⟩
   rcases List.mem_append.1 hb with hb | hb
   · exact (hw.ext hxx) b hb
   exact (hw2.ext hxx) b hb
 intro b hb
 rcases List.mem_cons.1 hb with rfl | hb
 · exact ⟨hl.2.2,hlt⟩
 rcases List.mem_append.1 hb with hb | hb
 · have:=hF b hb;have:=hFl b hb;omega
 have:=hG b hb;have:=hGl b hb;omega
end
end Go.Sh
namespace Go.Sh
open Rep (rep)
instance:Rep UInt8 where
 size:=1
 agg:=false
 rep F _ cs x:=F=[]∧cs=[.int .u8 (x.toNat:Int)]
 pos:=by decide
 sz _:=rfl
 len:=by rintro _ _ _ _ ⟨_,rfl⟩;rfl
 one:=by rintro _ _ _ _ ⟨_,rfl⟩ v hv;simp at hv;subst hv;rfl
 keep:=by rintro _ _ _ _ _ h _;exact h
 lt:=by rintro _ _ _ _ ⟨rfl,_⟩ b hb;cases hb
instance:Flat UInt8:=⟨fun h=>h.1⟩
instance:RepZ UInt8:=⟨0,[.int .u8 0],fun _=>⟨rfl,rfl⟩⟩
section
variable {P:Program} {w w0:World} {K:Value→Prop} {t:TypeId} {x y:Operand}
theorem zr3 {v:Value} {b:UInt8}:Is w v b↔v=.int .u8 (b.toNat:Int):=by
 constructor
 · rintro ⟨F,cs,⟨_,rfl⟩,rfl⟩;rfl
 rintro rfl;exact ⟨[],_,⟨rfl,rfl⟩,rfl⟩
theorem zlw {t by_ b o:Nat} {x:UInt8} (ht:tyI P t=some (1,by_,false)) (h:At w0 b o x) (hx:Ext w0 w) (k:K (.int .u8 (x.toNat:Int))) :
   RD P (Instr.loadAt t (.pointer (some ⟨b,o,none⟩))) w K:=
 zab (α:=UInt8) ht h hx fun v hv=>by obtain rfl:=zr3.1 hv;exact k
end
end Go.Sh
namespace Go.Proofs.YtcnglfeoglgebaaGreat
open Go Go.Sh Go.Proofs
open Rep (rep)
def F50 (a0:Value) (w:World) (R:VW):Prop:=
 NIL a0 <|
 rF 125 a0 2 w fun x7=>
 rL 3 x7 w fun x8=>
 rB .mul 3 T0 U0 x8 (iV 6364136223846793005) w fun x9=>
 rA x9 (iV 1442695040888963407) w fun x10=>
 NIL a0 <|
 rF 125 a0 2 w fun x12=>
 oS 3 x12 x10 w fun w=>
 (fun w=>NIL a0 <|
 rF 125 a0 2 w fun x15=>
 rL 3 x15 w fun x16=>
 rB .shr 3 T0 U0 x16 (Value.int .u64 33) w fun x17=>
 NIL a0 <|
 rF 125 a0 2 w fun x20=>
 rL 3 x20 w fun x21=>
 rB .shr 3 T0 U0 x21 (Value.int .u64 45) w fun x22=>
 rB .xor 3 T0 T0 x17 x22 w fun x23=>
 rB .and 3 T0 U0 x23 (iV 255) w fun x24=>
 (fun w=>NIL a0 <|
 rF 125 a0 1 w fun x27=>
 rL 3 x27 w fun x28=>
 NIL a0 <|
 rF 125 a0 0 w fun x31=>
 rL 22 x31 w fun x32=>
 rN 22 3 x32 w fun x33=>
 rC x28 x33 w fun x34=>
 BR x34
 ((fun w=>NIL a0 <|
 rF 125 a0 0 w fun x38=>
 rL 22 x38 w fun x39=>
 NIL a0 <|
 rF 125 a0 1 w fun x42=>
 rL 3 x42 w fun x43=>
 rX 22 x39 x43 w fun x44=>
 rL 5 x44 w fun x45=>
 rD (convert 5 3 x45) w fun x46=>
 rB .add 3 T0 T0 x24 x46 w fun x47=>
 rB .and 3 T0 U0 x47 (iV 255) w fun x48=>
 NIL a0 <|
 rF 125 a0 1 w fun x52=>
 rL 3 x52 w fun x53=>
 rA x53 (iV 1) w fun x54=>
 NIL a0 <|
 rF 125 a0 1 w fun x56=>
 oS 3 x56 x54 w fun w=>
 R x48 w) (World.drew1 w))
 (R x24 w)) (World.drew1 w)) (World.drew1 w)
def cfg50:Cfg:=⟨extL,[],[],[(2,[0,1,2,3,4,5,6,7,8,9,10,11,12],0),(3,[0,1,2,3,4,5,6,7,8,9],0),(4,[0,1,2,3,4,5,6,7,8,9,10,11,12,13,14],0)],[],[],[]⟩
theorem F50_call {a0:Value} {w:World} {R:VW} (h:F50 a0 w R):cL 50 [a0] w R:=co (g:=cfg50) Tryz.func50 (by kernel_rfl) (by kernel_rfl) (by kernel_rfl) h
theorem zrG:zbt Tryz.prog 3=some [.int .i64 0]:=by kernel_rfl
theorem zcO:zbt Tryz.prog 9=some [.string ByteArray.empty]:=by kernel_rfl
def CurAt (W:World) (g:Nat) (bs:List UInt8) (s:Cur) (w:World):Prop:=
 ∃ v,Is W v bs∧Ext W w∧W.heap.size≤g∧Blk g 125 w [v,.int .i64 (s.i:Int),.int .i64 s.h]∧s.i≤bs.length∧bs.length≤1048576
section
variable {W w w':World} {g a b:Nat} {bs:List UInt8} {s:Cur}
theorem CurAt.lt (h:CurAt W g bs s w):W.heap.size≤g∧g<w.heap.size:=by
 obtain ⟨v,_,_,h1,h2,_⟩:=h;exact ⟨h1,h2.lt⟩
theorem CurAt.ext (h:CurAt W g bs s w) (hx:Ext w w'):CurAt W g bs s w':=by
 obtain ⟨v,h0,h1,h2,h3,h4⟩:=h;exact ⟨v,h0,h1.trans hx,h2,h3.ext hx,h4⟩
theorem CurAt.chg (h:CurAt W g bs s w) (hc:ChgI a b w w') (h1:W.heap.size≤a) (hd:g<a∨b≤g):CurAt W g bs s w':=by
 obtain ⟨v,h0,hx,h2,h3,h4⟩:=h;exact ⟨v,h0,hx.chgI hc h1,h2,h3.chgI hc hd,h4⟩
theorem ChgI.out {c:World} {lo hi x y:Nat} (h:ChgI x y w w') (k:ChgI lo hi w' c) (hl:w.heap.size≤lo):ChgI x y w c:=
 ⟨k.os.trans h.os,k.tape.trans h.tape,k.output.trans h.output,Nat.le_trans h.size k.size,fun i hi ho=>(k.block i (Nat.lt_of_lt_of_le hi h.size) (by omega)).trans (h.block i hi ho)⟩
end
theorem zcB {W w:World} {g:Nat} {bs:List UInt8} {s:Cur} (hC:CurAt W g bs s w) :
   CALL Tryz.prog 50 [.pointer (some ⟨g,0,none⟩)] w fun r w'=>ChgI g (g+1) w w'∧CurAt W g bs (zbP bs s) w'∧r=.int .i64 (zfD bs s):=by
 obtain ⟨v,hv,hx,hg,hB,hi,hl⟩:=hC
 refine F50_call ?_
 unfold F50
 refine NIL.mk rfl ?_
 refine zaa zhT ?_
 refine zas ty3 hB rfl ?_
 refine zqF ?_
 refine znO ?_
 refine NIL.mk rfl ?_
 refine zaa zhT ?_
 refine zcp (α:=Int) ty3 rfl rfl hB (by simp) (ownI_int (lo:=0) (hi:=0) (zqE _)) fun w1 hc1 hB1=>?_
 have hx2:=zao w1
 have hB2:=hB1.ext hx2
 have hc2:=hc1.trans hx2.toI
 have hvl:=zan hv
 refine NIL.mk rfl ?_
 refine zaa zhT ?_
 refine zas ty3 hB2 rfl ?_
 refine znP (n:=33) ?_
 refine NIL.mk rfl ?_
 refine zaa zhT ?_
 refine zas ty3 hB2 rfl ?_
 refine znP (n:=45) ?_
 refine zqG ?_
 refine zkr ?_
 have hx3:=zao (World.drew1 w1)
 have hB3:=hB2.ext hx3
 have hc3:=hc2.trans hx3.toI
 refine NIL.mk rfl ?_
 refine zaa zhS ?_
 refine zas ty3 hB3 rfl ?_
 refine NIL.mk rfl ?_
 refine zaa zmJ ?_
 refine zas zsb hB3 rfl ?_
 refine zaf u22 hv ?_
 have hx3':Ext W (World.drew1 (World.drew1 w1)):=hx.chgI hc3 hg
 obtain ⟨bx,hbx⟩:∃ x,x=zpf (zmb s.h):=⟨_,rfl⟩
 have e0:zma (zr0 (zrF (zjH (zjH (s.h*6364136223846793005)+1442695040888963407)) 33) (zrF (zjH (zjH (s.h*6364136223846793005)+1442695040888963407)) 45)) 255=bx:=hbx.symm
 have hbl:0≤bx∧bx≤255:=by rw [hbx];exact ziq _ (n:=255) (by omega)
 rw [e0]
 refine zal ?_
 refine br (fun hlt=>?_) (fun hge=>?_)
 · have hlt:s.i<bs.length:=by omega
   have hx4:=zao (World.drew1 (World.drew1 w1))
   have hB4:=hB3.ext hx4
   have hc4:=hc3.trans hx4.toI
   have hx4':=hx3'.trans hx4
   refine NIL.mk rfl ?_
   refine zaa zmJ ?_
   refine zas zsb hB4 rfl ?_
   refine NIL.mk rfl ?_
   refine zaa zhS ?_
   refine zas ty3 hB4 rfl ?_
   refine zad u22 ty5 (i:=s.i) hv hlt fun b o hA=>?_
   refine zlw ty5 hA hx4' ?_
   have h256:=UInt8.toNat_lt (bs[s.i])
   refine znQ (by kernel_rfl) u3 (by omega) ?_
   refine znO ?_
   refine zkr ?_
   refine NIL.mk rfl ?_
   refine zaa zhS ?_
   refine zas ty3 hB4 rfl ?_
   refine zag (by omega) ?_
   refine NIL.mk rfl ?_
   refine zaa zhS ?_
   refine zcp (α:=Int) ty3 rfl rfl hB4 (by simp) (ownI_int (lo:=0) (hi:=0) (by unfold I64;omega)) fun w5 hc5 hB5=>?_
   have hc6:=hc4.trans hc5
   refine ⟨hc6,⟨v,hv,hx.chgI hc6 hg,hg,?_,?_,hl⟩,?_⟩
   rotate_left 2
   · have hq:zfD bs s=zma (bx+(bs[s.i].toNat:Int)) 255:=by
       unfold zfD;rw [List.getElem?_eq_getElem hlt,hbx]
     rw [hq,znN (by unfold I64;omega)]
   · have:zbP bs s=⟨s.i+1,zmb s.h⟩:=by unfold zbP;rw [if_pos hlt]
     rw [this];exact hB5
   show (if s.i<bs.length then s.i+1 else s.i)≤_
   rw [if_pos hlt];omega
 have hge:¬s.i<bs.length:=by omega
 refine ⟨hc3,⟨v,hv,hx3',hg,?_,?_,hl⟩,?_⟩
 rotate_left 2
 · have hq:zfD bs s=bx:=by
     unfold zfD;rw [List.getElem?_eq_none (by omega),hbx]
   rw [hq]
 · have:zbP bs s=⟨s.i,zmb s.h⟩:=by unfold zbP;rw [if_neg hge]
   rw [this];exact hB3
 show (if s.i<bs.length then s.i+1 else s.i)≤_
 rw [if_neg hge];exact hi
def F51 (a0 a1:Value) (w:World) (R:VW):Prop:=
 rB .leq 3 T0 U0 a1 (iV 0) w fun x10=>
 BR x10
 (R (iV 0) w)
 (rB .leq 3 T0 U0 a1 (iV 256) w fun x12=>
 BR x12
 (cL 50 [a0] w fun x14 w=>
 rB .rem 3 T0 T0 x14 a1 w fun x16=>
 R x16 w)
 (cL 50 [a0] w fun x18 w=>
 cL 50 [a0] w fun x20 w=>
 cL 50 [a0] w fun x22 w=>
 cL 50 [a0] w fun x24 w=>
 rB .mul 3 T0 U0 x18 (iV 16777216) w fun x26=>
 rB .mul 3 T0 U0 x20 (iV 65536) w fun x28=>
 rB .add 3 T0 T0 x26 x28 w fun x29=>
 rB .mul 3 T0 U0 x22 (iV 256) w fun x31=>
 rB .add 3 T0 T0 x29 x31 w fun x32=>
 rB .add 3 T0 T0 x32 x24 w fun x34=>
 rB .rem 3 T0 T0 x34 a1 w fun x36=>
 R x36 w))
def cfg51:Cfg:=⟨extL,[],[],[],[],[],[]⟩
theorem F51_call {a0 a1:Value} {w:World} {R:VW} (h:F51 a0 a1 w R):cL 51 [a0,a1] w R:=co (g:=cfg51) Tryz.func51 (by kernel_rfl) (by kernel_rfl) (by kernel_rfl) h
theorem zdA {w:World} {W:World} {g:Nat} {bs:List UInt8} {s:Cur} {n:Int}  (hC:CurAt W g bs s w) (hn:n≤1000000000000) :
   CALL Tryz.prog 51 [.pointer (some ⟨g,0,none⟩),.int .i64 n] w fun r w'=>ChgI g (g+1) w w'∧(CurAt W g bs (zav bs n s) w'∧r=.int .i64 (zcW bs n s)):=by
 refine F51_call ?_
 unfold F51
 have hgl:=hC.lt
 have b1:=zcV bs s
 have b2:=zcV bs (zbP bs s)
 have b3:=zcV bs (zbP bs (zbP bs s))
 have b4:=zcV bs (zbP bs (zbP bs (zbP bs s)))
 refine zeU ?_
 refine br (fun c1=>?_) (fun c1=>?_)
 · refine ⟨(ChgI.refl w),?_⟩
   unfold zav zcW
   rw [if_pos c1,if_pos c1]
   exact ⟨hC,rfl⟩
 refine zeU ?_
 refine br (fun c2=>?_) (fun c2=>?_)
 · refine (zcB hC).mono ?_
   rintro _ w1_ ⟨hc1_,hC1_,rfl⟩
   have hs_hc1_:=hc1_.size
   have hs_hc1_:=hc1_.size
   refine zmA (by omega) ?_
   refine ⟨hc1_,?_⟩
   unfold zav zcW
   rw [if_neg c1,if_neg c1,if_pos c2,if_pos c2]
   exact ⟨hC1_,rfl⟩
 refine (zcB hC).mono ?_
 rintro _ w2_ ⟨hc2_,hC2_,rfl⟩
 have hs_hc2_:=hc2_.size
 have hs_hc2_:=hc2_.size
 refine (zcB hC2_).mono ?_
 rintro _ w3_ ⟨hc3_,hC3_,rfl⟩
 have hs_hc3_:=hc3_.size
 have hs_hc3_:=hc3_.size
 refine (zcB hC3_).mono ?_
 rintro _ w4_ ⟨hc4_,hC4_,rfl⟩
 have hs_hc4_:=hc4_.size
 have hs_hc4_:=hc4_.size
 refine (zcB hC4_).mono ?_
 rintro _ w5_ ⟨hc5_,hC5_,rfl⟩
 have hs_hc5_:=hc5_.size
 have hs_hc5_:=hc5_.size
 refine zkO (by unfold I64;omega) ?_
 refine zkO (by unfold I64;omega) ?_
 refine zeq (by unfold I64;omega) ?_
 refine zkO (by unfold I64;omega) ?_
 refine zeq (by unfold I64;omega) ?_
 refine zeq (by unfold I64;omega) ?_
 refine zmA (by omega) ?_
 refine ⟨(ChgI.trans (ChgI.trans (ChgI.trans hc2_ hc3_) hc4_) hc5_),?_⟩
 unfold zav zcW
 rw [if_neg c1,if_neg c1,if_neg c2,if_neg c2]
 exact ⟨hC5_,rfl⟩
theorem zdB {α:Type} {l:List α} {i:Nat} {d:α} (h:i<l.length):l[i]=l.getD i d:=by rw [List.getD_eq_getElem?_getD,List.getElem?_eq_getElem h];rfl
def F129 (a0 a1:Value) (w:World) (R:VW):Prop:=
 rN 24 3 a1 w fun x8=>
 cL 51 [a0,x8] w fun x9 w=>
 rX 24 a1 x9 w fun x10=>
 rL 9 x10 w fun x11=>
 R x11 w
def cfg129:Cfg:=⟨extL,[],[],[],[],[],[]⟩
theorem F129_call {a0 a1:Value} {w:World} {R:VW} (h:F129 a0 a1 w R):cL 129 [a0,a1] w R:=co (g:=cfg129) Tryz.func129 (by kernel_rfl) (by kernel_rfl) (by kernel_rfl) h
theorem zmh {w:World} {W:World} {g:Nat} {bs:List UInt8} {s:Cur} {v1:Value} {lo1 hi1:Nat} {l:(List ByteArray)}  (hC:CurAt W g bs s w) (h1:OwnI lo1 hi1 w v1 l) (hlo1:lo1≤w.heap.size) (hhi1:hi1≤w.heap.size) (hg1:g<lo1∨hi1≤g) (h0:0<l.length) (hn:l.length≤1000) :
   CALL Tryz.prog 129 [.pointer (some ⟨g,0,none⟩),v1] w fun r w'=>ChgI g (g+1) w w'∧(CurAt W g bs (zav bs (l.length:Int) s) w'∧r=.string (zfS bs l s)∧(zfS bs l s).size≤maxLen):=by
 refine F129_call ?_
 unfold F129
 have hgl:=hC.lt
 have hbx:=zcM bs (n:=(l.length:Int)) (by omega) s
 have hln8:=zan h1.is
 refine zaf u24 h1.is ?_
 refine (zdA hC (by omega)).mono ?_
 rintro _ w1_ ⟨hc1_,hC1_,rfl⟩
 have hs_hc1_:=hc1_.size
 have hs_hc1_:=hc1_.size
 have h1_c1:=(h1.ext (Ext.refl w)).chg hc1_ (by omega)
 refine zd6 u24 ty9 h1_c1.is (by omega) (by omega) fun b10 o10 h10=>?_
 refine zaA ty9 h10 (Ext.refl w1_) fun hS11=>?_
 refine ⟨hc1_,?_⟩
 refine ⟨hC1_,?_,?_⟩
 · unfold zfS;rw [←zdB (by omega)]
 unfold zfS;rw [←zdB (by omega)];assumption
def F128 (a0 a1:Value) (w:World) (R:VW):Prop:=
 rN 33 3 a1 w fun x8=>
 cL 51 [a0,x8] w fun x9 w=>
 rX 33 a1 x9 w fun x10=>
 rL 3 x10 w fun x11=>
 R x11 w
def cfg128:Cfg:=⟨extL,[],[],[],[],[],[]⟩
theorem F128_call {a0 a1:Value} {w:World} {R:VW} (h:F128 a0 a1 w R):cL 128 [a0,a1] w R:=co (g:=cfg128) Tryz.func128 (by kernel_rfl) (by kernel_rfl) (by kernel_rfl) h
theorem zfg {w:World} {W:World} {g:Nat} {bs:List UInt8} {s:Cur} {v1:Value} {lo1 hi1:Nat} {l:(List Int)}  (hC:CurAt W g bs s w) (h1:OwnI lo1 hi1 w v1 l) (hlo1:lo1≤w.heap.size) (hhi1:hi1≤w.heap.size) (hg1:g<lo1∨hi1≤g) (h0:0<l.length) (hn:l.length≤1000) :
   CALL Tryz.prog 128 [.pointer (some ⟨g,0,none⟩),v1] w fun r w'=>ChgI g (g+1) w w'∧(CurAt W g bs (zav bs (l.length:Int) s) w'∧r=.int .i64 (zfE bs l s)∧I64 (zfE bs l s)):=by
 refine F128_call ?_
 unfold F128
 have hgl:=hC.lt
 have hbx:=zcM bs (n:=(l.length:Int)) (by omega) s
 have hln8:=zan h1.is
 refine zaf u33 h1.is ?_
 refine (zdA hC (by omega)).mono ?_
 rintro _ w1_ ⟨hc1_,hC1_,rfl⟩
 have hs_hc1_:=hc1_.size
 have hs_hc1_:=hc1_.size
 have h1_c1:=(h1.ext (Ext.refl w)).chg hc1_ (by omega)
 refine zd6 u33 ty3 h1_c1.is (by omega) (by omega) fun b10 o10 h10=>?_
 refine zac ty3 h10 (Ext.refl w1_) fun hI11=>?_
 refine ⟨hc1_,?_⟩
 refine ⟨hC1_,?_,?_⟩
 · unfold zfE;rw [←zdB (by omega)]
 unfold zfE;rw [←zdB (by omega)];assumption
section
variable {w:World} {lo hi l0 h0 l1 h1:Nat} {K:Value→Prop}
theorem znX {α:Type} [Rep α] {v:Value} {l:List α} (h:OwnI lo hi w v l):∃ a cap,v=.slice a l.length cap:=by
 obtain ⟨F,⟨⟨cs,⟨a,cap,Fi,xs,rfl,_⟩,hv⟩,_⟩,_⟩:=h
 exact ⟨a,cap,by simpa [mkv,Rep.agg] using hv⟩
theorem zd0 {α:Type} [Rep α]:OwnI (α:=List α) lo hi w (.slice none 0 0) []:=zgq none
theorem zgV:I64 0:=by unfold I64;omega
theorem zks:nO.size≤maxLen:=by decide
theorem zkt {a b:Int} (ha:I64 a) (hb:I64 b) (k:∀ v,OwnI lo hi w v (DTerm.mk a b nO [])→K v):RD Tryz.prog (Instr.build 53 #[(0,.int .i64 a),(1,.int .i64 b)]) w K:=
 zaz (cells:=#[.int .i64 a,.int .i64 b,.string nO,.slice none 0 0]) (by kernel_rfl) (k _ (zdZ ha hb zks zd0))
theorem zku {a:Int} {s:ByteArray} (ha:I64 a) (hs:s.size≤maxLen) (k:∀ v,OwnI lo hi w v (DTerm.mk a 0 s [])→K v):RD Tryz.prog (Instr.build 53 #[(0,.int .i64 a),(2,.string s)]) w K:=
 zaz (cells:=#[.int .i64 a,.int .i64 0,.string s,.slice none 0 0]) (by kernel_rfl) (k _ (zdZ ha zgV hs zd0))
theorem zgW {a:Int} {u:Value} {l:List DTerm} (ha:I64 a) (hu:OwnI lo hi w u l) (k:∀ v,OwnI lo hi w v (DTerm.mk a 0 nO l)→K v):RD Tryz.prog (Instr.build 53 #[(0,.int .i64 a),(3,u)]) w K:=by
 obtain ⟨p,q,rfl⟩:=znX hu
 exact zaz (cells:=#[.int .i64 a,.int .i64 0,.string nO,.slice p l.length q]) (by kernel_rfl) (k _ (zdZ ha zgV zks hu))
theorem zel:OwnI lo hi w (.agg #[.int .i64 0,.int .i64 0,.string nO,.slice none 0 0]) zaM:=zdZ zgV zgV zks zd0
theorem mkS {k:Int} {s:ByteArray} {t:DTerm} {c0 c1 c2 c3 vb ve:Value} {bs es:List DStmt} {l0 h0 l1 h1 l2 h2:Nat} (hk:I64 k) (hs:s.size≤maxLen) (ht:OwnI l0 h0 w (.agg #[c0,c1,c2,c3]) t) (hb:OwnI l1 h1 w vb bs) (he:OwnI l2 h2 w ve es)
   (d01:h0≤l1∨h1≤l0) (d02:h0≤l2∨h2≤l0) (d12:h1≤l2∨h2≤l1) (b0:lo≤l0∧h0≤hi) (b1:lo≤l1∧h1≤hi) (b2:lo≤l2∧h2≤hi) :
   OwnI lo hi w (.agg #[.int .i64 k,.string s,c0,c1,c2,c3,vb,ve]) (DStmt.mk k s t bs es):=znM hk hs ht hb he d01 d02 d12 b0 b1 b2
end
section
variable {bs:List UInt8} {n:Nat} {s:Cur}
theorem zjn (h:zcN bs n s<3):zam bs n s=(.mk 1 (zfE bs zqH (zav bs 12 s)) nO [],zav bs 8 (zav bs 12 s)):=by
 cases n with
 | zero=>rw [zam,if_pos h]
 | succ n=>rw [zam,if_pos h]
theorem zjo (h:¬zcN bs n s<3) (h2:zcN bs n s<6):zam bs n s=(.mk 2 0 (zfS bs zmr (zav bs 12 s)) [],zav bs 5 (zav bs 12 s)):=by
 cases n with
 | zero=>rw [zam,if_neg h]
 | succ n=>rw [zam,if_neg h,if_pos h2]
theorem zcX (h2:¬zcN bs n s<6):0<n:=by
 cases n with
 | zero=>have:=zqI bs s;omega
 | succ n=>omega
theorem zjp (h:¬zcN bs n s<3) (h2:¬zcN bs n s<6) (h3:zcN bs n s=6):zam bs n s=(.mk 8 0 nO [(zam bs (n-1) (zav bs 12 s)).1],(zam bs (n-1) (zav bs 12 s)).2):=by
 have:=zcX h2
 obtain ⟨m,rfl⟩:∃ m,n=m+1:=⟨n-1,by omega⟩
 rw [zam,if_neg h,if_neg h2,if_pos h3];rfl
theorem zjq (h:¬zcN bs n s<3) (h2:¬zcN bs n s<6) (h3:¬zcN bs n s=6):zam bs n s=(.mk (zfE bs opL (zav bs 12 s)) 0 nO [(zam bs (n-1) (zav bs 6 (zav bs 12 s))).1,(zam bs (n-1) (zam bs (n-1) (zav bs 6 (zav bs 12 s))).2).1],
     (zam bs (n-1) (zam bs (n-1) (zav bs 6 (zav bs 12 s))).2).2):=by
 have:=zcX h2
 obtain ⟨m,rfl⟩:∃ m,n=m+1:=⟨n-1,by omega⟩
 rw [zam,if_neg h,if_neg h2,if_neg h3];rfl
end
def zpU (n:Nat):Prop:=∀ {W w:World} {g:Nat} {bs:List UInt8} {s:Cur} {d:Int},CurAt W g bs s w→d=(n:Int) →
 CALL Tryz.prog 60 [.pointer (some ⟨g,0,none⟩),.int .i64 d] w fun r w'=>ChgI g (g+1) w w'∧CurAt W g bs (zam bs n s).2 w'∧OwnI w.heap.size w'.heap.size w' r (zam bs n s).1
def F60 (a0 a1:Value) (w:World) (R:VW):Prop:=
 oP (Instr.alloc 53 true (.tuple #[])) w fun x4 w=>
 cL 51 [a0,(iV 12)] w fun x7 w=>
 JOIN [5] (fun J4=>
 rB .leq 3 T0 U0 a1 (iV 0) w fun x9=>
 BR x9
 (rB .geq 3 T0 U0 x7 (iV 6) w fun x12=>
 BR x12
 (rB .sub 3 T0 U0 x7 (iV 6) w fun x15=>
 J4 [x15] w)
 (J4 [x7] w))
 (J4 [x7] w)) (fun u4 w=>
 rB .lss 3 T0 U0 (u4 5) (iV 3) w fun x18=>
 BR x18
 (oP (Instr.buildSlice 33 8 #[(0,(iV 0)),(1,(iV 1)),(2,(iV 2)),(3,(iV 3)),(4,(iV 7)),(5,(iV 999)),(6,(iV 1000)),(7,(iV 1000000000))]) w fun x20 w=>
 cL 128 [a0,x20] w fun x21 w=>
 rD (Instr.build 53 #[(0,(iV 1)),(1,x21)]) w fun x22=>
 oS 53 x4 x22 w fun w=>
 rD (zbG 53 x4) w fun r4=>R r4 w)
 (rB .lss 3 T0 U0 (u4 5) (iV 6) w fun x25=>
 BR x25
 (oP (Instr.buildSlice 24 5 #[(0,(Value.string (ByteArray.mk #[120]))),(1,(Value.string (ByteArray.mk #[121]))),(2,(Value.string (ByteArray.mk #[122]))),(3,(Value.string (ByteArray.mk #[120]))),(4,(Value.string (ByteArray.mk #[117])))]) w fun x27 w=>
 cL 129 [a0,x27] w fun x28 w=>
 rD (Instr.build 53 #[(0,(iV 2)),(2,x28)]) w fun x29=>
 oS 53 x4 x29 w fun w=>
 rD (zbG 53 x4) w fun r4=>R r4 w)
 (rB .eql 3 T0 U0 (u4 5) (iV 6) w fun x32=>
 BR x32
 (rB .sub 3 T0 U0 a1 (iV 1) w fun x35=>
 cL 60 [a0,x35] w fun x36 w=>
 oP (Instr.buildSlice 51 1 #[(0,x36)]) w fun x37 w=>
 rD (Instr.build 53 #[(0,(iV 8)),(3,x37)]) w fun x38=>
 oS 53 x4 x38 w fun w=>
 rD (zbG 53 x4) w fun r4=>R r4 w)
 (oP (Instr.buildSlice 33 6 #[(0,(iV 3)),(1,(iV 4)),(2,(iV 5)),(3,(iV 6)),(4,(iV 7)),(5,(iV 9))]) w fun x40 w=>
 cL 128 [a0,x40] w fun x41 w=>
 rB .sub 3 T0 U0 a1 (iV 1) w fun x44=>
 cL 60 [a0,x44] w fun x45 w=>
 rB .sub 3 T0 U0 a1 (iV 1) w fun x48=>
 cL 60 [a0,x48] w fun x49 w=>
 oP (Instr.buildSlice 51 2 #[(0,x45),(1,x49)]) w fun x50 w=>
 rD (Instr.build 53 #[(0,x41),(3,x50)]) w fun x51=>
 oS 53 x4 x51 w fun w=>
 rD (zbG 53 x4) w fun r4=>R r4 w))))
def cfg60:Cfg:=⟨extL,[(4,65312,[5])],[],[],[],[],[]⟩
theorem F60_call {a0 a1:Value} {w:World} {R:VW} (h:F60 a0 a1 w R):cL 60 [a0,a1] w R:=co (g:=cfg60) Tryz.func60 (by kernel_rfl) (by kernel_rfl) (by kernel_rfl) h
theorem zjr {w:World} {W:World} {g:Nat} {bs:List UInt8} {s:Cur} {d:Int} {n:Nat} (hC:CurAt W g bs s w) (hd:d=(n:Int)) (ih:∀ m,m+1=n→zpU m) (hn:n≤10) :
   CALL Tryz.prog 60 [.pointer (some ⟨g,0,none⟩),.int .i64 d] w fun r w'=>ChgI g (g+1) w w'∧(CurAt W g bs (zam bs n s).2 w'∧OwnI w.heap.size w'.heap.size w' r (zam bs n s).1):=by
 refine F60_call ?_
 unfold F60
 have hgl:=hC.lt
 have hb12:=zcM bs (n:=12) (by omega) s
 refine zhW (α:=DTerm) zqb fun w1_ hx1_ hv4=>?_
 have hg4:=hv4.lt
 have hs_hx1_:=hx1_.size
 refine (zdA (CurAt.ext hC hx1_) (by omega)).mono ?_
 rintro _ w2_ ⟨hc2_,hC2_,rfl⟩
 have hs_hc2_:=hc2_.size
 have hs_hc2_:=hc2_.size
 have hv4_c2:=(hv4.ext (Ext.refl w1_)).chg hc2_ (by omega) (by omega)
 refine JOIN.mk (fun us w'=>us=[.int .i64 (zcN bs n s)]∧Ext w2_ w'∧(True)) ?_ ?_
 · refine zeU ?_
   refine br (fun c1=>?_) (fun c1=>?_)
   · refine zdD ?_
     refine br (fun c2=>?_) (fun c2=>?_)
     · refine zck (by unfold I64;omega) ?_
       refine ⟨by unfold zcN;rw [if_pos (by omega)],Ext.refl w2_,?_⟩
       trivial
     refine ⟨by unfold zcN;rw [if_neg (by omega)],Ext.refl w2_,?_⟩
     trivial
   refine ⟨by unfold zcN;rw [if_neg (by omega)],Ext.refl w2_,?_⟩
   trivial
 rintro uj4 w3_ ⟨hu,hx3_,_⟩
 have hs_hx3_:=hx3_.size
 simp only [List.map_cons,List.map_nil,List.cons.injEq,and_true] at hu
 try rw [hu]
 try clear hu
 refine zal ?_
 refine br (fun c3=>?_) (fun c3=>?_)
 · refine znW (vs:=([0,1,2,3,7,999,1000,1000000000]:List Int).map (Value.int .i64)) u33 ty3 zrG (by decide) (by kernel_rfl) rfl (fun w=>zfH (by simp [I64])) fun v20 w4_ hx4_ o20=>?_
   have hs_hx4_:=hx4_.size
   refine (zfg (CurAt.ext (CurAt.ext hC2_ hx3_) hx4_) (o20.ext (Ext.refl w4_)) (by omega) (by omega) (by omega) (by decide) (by decide)).mono ?_
   rintro _ w5_ ⟨hc5_,hC5_,rfl,hI21⟩
   have hs_hc5_:=hc5_.size
   have hs_hc5_:=hc5_.size
   have hv4_c5:=(hv4_c2.ext (hx3_.trans hx4_)).chg hc5_ (by omega) (by omega)
   have o20_c5:=(o20.ext (Ext.refl w4_)).chg hc5_ (by omega)
   refine zkt (lo:=w5_.heap.size) (hi:=w5_.heap.size) (by first | assumption | (unfold I64;omega)) (by first | assumption | (unfold I64;omega)) fun v22 o22=>?_
   refine zdr zcn (hv4_c5.ext (Ext.refl w5_)) (o22.ext (Ext.refl w5_)) (by omega) fun w6_ hc6_ hv4_s6=>?_
   have hs_hc6_:=hc6_.size
   have o20_c6:=(o20_c5.ext (Ext.refl w5_)).chg hc6_ (by omega)
   have o22_c6:=(o22.ext (Ext.refl w5_)).chg hc6_ (by omega)
   refine zd7 zcn hv4_s6 (Ext.refl w6_) fun r4 hr4=>?_
   replace hr4:=hr4.ext (Ext.refl w6_)
   refine ⟨(ChgI.out (ChgI.trans (ChgI.trans (ChgI.trans (ChgI.trans (Ext.toI hx1_) hc2_) (Ext.toI hx3_)) (Ext.toI hx4_)) hc5_) hc6_ (by omega)),?_⟩
   rw [zjn (by omega)]
   exact ⟨(CurAt.chg hC5_ hc6_ (by omega) (by omega)),hr4.mono (by omega) (by omega)⟩
 refine zal ?_
 refine br (fun c4=>?_) (fun c4=>?_)
 · refine znW (vs:=([ByteArray.mk #[120],ByteArray.mk #[121],ByteArray.mk #[122],ByteArray.mk #[120],ByteArray.mk #[117]]:List ByteArray).map Value.string) u24 ty9 zcO (by decide) (by kernel_rfl) rfl (fun w=>zek (by decide)) fun v27 w7_ hx7_ o27=>?_
   have hs_hx7_:=hx7_.size
   refine (zmh (CurAt.ext (CurAt.ext hC2_ hx3_) hx7_) (o27.ext (Ext.refl w7_)) (by omega) (by omega) (by omega) (by decide) (by decide)).mono ?_
   rintro _ w8_ ⟨hc8_,hC8_,rfl,hS28⟩
   have hs_hc8_:=hc8_.size
   have hs_hc8_:=hc8_.size
   have hv4_c8:=(hv4_c2.ext (hx3_.trans hx7_)).chg hc8_ (by omega) (by omega)
   have o27_c8:=(o27.ext (Ext.refl w7_)).chg hc8_ (by omega)
   refine zku (lo:=w8_.heap.size) (hi:=w8_.heap.size) (by first | assumption | (unfold I64;omega)) (by first | assumption | decide) fun v29 o29=>?_
   refine zdr zcn (hv4_c8.ext (Ext.refl w8_)) (o29.ext (Ext.refl w8_)) (by omega) fun w9_ hc9_ hv4_s9=>?_
   have hs_hc9_:=hc9_.size
   have o27_c9:=(o27_c8.ext (Ext.refl w8_)).chg hc9_ (by omega)
   have o29_c9:=(o29.ext (Ext.refl w8_)).chg hc9_ (by omega)
   refine zd7 zcn hv4_s9 (Ext.refl w9_) fun r4 hr4=>?_
   replace hr4:=hr4.ext (Ext.refl w9_)
   refine ⟨(ChgI.out (ChgI.trans (ChgI.trans (ChgI.trans (ChgI.trans (Ext.toI hx1_) hc2_) (Ext.toI hx3_)) (Ext.toI hx7_)) hc8_) hc9_ (by omega)),?_⟩
   rw [zjo (by omega) (by omega)]
   exact ⟨(CurAt.chg hC8_ hc9_ (by omega) (by omega)),hr4.mono (by omega) (by omega)⟩
 refine zai ?_
 refine br (fun c5=>?_) (fun c5=>?_)
 · refine zck (by unfold I64;omega) ?_
   have hnp:=zcX (show ¬zcN bs n s<6 by omega)
   refine (ih (n-1) (by omega) (CurAt.ext hC2_ hx3_) (by omega)).mono ?_
   rintro r36 w10_ ⟨hc10_,hC10_,o36⟩
   have hs_hc10_:=hc10_.size
   have hs_hc10_:=hc10_.size
   have hv4_c10:=(hv4_c2.ext hx3_).chg hc10_ (by omega) (by omega)
   refine zlO (α:=DTerm) u51 zcn z53 (by decide) (o36.ext (Ext.refl w10_)) (by omega) fun v37 w11_ hx11_ o37=>?_
   have hs_hx11_:=hx11_.size
   refine zgW (lo:=w3_.heap.size) (hi:=w11_.heap.size) (by first | assumption | (unfold I64;omega)) (o37.ext (Ext.refl w11_)) fun v38 o38=>?_
   refine zdr zcn (hv4_c10.ext hx11_) (o38.ext (Ext.refl w11_)) (by omega) fun w12_ hc12_ hv4_s12=>?_
   have hs_hc12_:=hc12_.size
   have o36_c12:=(o36.ext hx11_).chg hc12_ (by omega)
   have o37_c12:=(o37.ext (Ext.refl w11_)).chg hc12_ (by omega)
   have o38_c12:=(o38.ext (Ext.refl w11_)).chg hc12_ (by omega)
   refine zd7 zcn hv4_s12 (Ext.refl w12_) fun r4 hr4=>?_
   replace hr4:=hr4.ext (Ext.refl w12_)
   refine ⟨(ChgI.out (ChgI.trans (ChgI.trans (ChgI.trans (ChgI.trans (Ext.toI hx1_) hc2_) (Ext.toI hx3_)) hc10_) (Ext.toI hx11_)) hc12_ (by omega)),?_⟩
   rw [zjp (by omega) (by omega) (by omega)]
   exact ⟨(CurAt.chg (CurAt.ext hC10_ hx11_) hc12_ (by omega) (by omega)),hr4.mono (by omega) (by omega)⟩
 refine znW (vs:=([3,4,5,6,7,9]:List Int).map (Value.int .i64)) u33 ty3 zrG (by decide) (by kernel_rfl) rfl (fun w=>zfH (by simp [I64])) fun v40 w13_ hx13_ o40=>?_
 have hs_hx13_:=hx13_.size
 refine (zfg (CurAt.ext (CurAt.ext hC2_ hx3_) hx13_) (o40.ext (Ext.refl w13_)) (by omega) (by omega) (by omega) (by decide) (by decide)).mono ?_
 rintro _ w14_ ⟨hc14_,hC14_,rfl,hI41⟩
 have hs_hc14_:=hc14_.size
 have hs_hc14_:=hc14_.size
 have hv4_c14:=(hv4_c2.ext (hx3_.trans hx13_)).chg hc14_ (by omega) (by omega)
 have o40_c14:=(o40.ext (Ext.refl w13_)).chg hc14_ (by omega)
 refine zck (by unfold I64;omega) ?_
 have hnp:=zcX (show ¬zcN bs n s<6 by omega)
 refine (ih (n-1) (by omega) hC14_ (by omega)).mono ?_
 rintro r45 w15_ ⟨hc15_,hC15_,o45⟩
 have hs_hc15_:=hc15_.size
 have hs_hc15_:=hc15_.size
 have hv4_c15:=(hv4_c14.ext (Ext.refl w14_)).chg hc15_ (by omega) (by omega)
 have o40_c15:=(o40_c14.ext (Ext.refl w14_)).chg hc15_ (by omega)
 refine zck (by unfold I64;omega) ?_
 refine (ih (n-1) (by omega) hC15_ (by omega)).mono ?_
 rintro r49 w16_ ⟨hc16_,hC16_,o49⟩
 have hs_hc16_:=hc16_.size
 have hs_hc16_:=hc16_.size
 have hv4_c16:=(hv4_c15.ext (Ext.refl w15_)).chg hc16_ (by omega) (by omega)
 have o40_c16:=(o40_c15.ext (Ext.refl w15_)).chg hc16_ (by omega)
 have o45_c16:=(o45.ext (Ext.refl w15_)).chg hc16_ (by omega)
 refine zmg (α:=DTerm) (lo:=w14_.heap.size) u51 zcn z53 (by decide) (o45_c16.ext (Ext.refl w16_)) (o49.ext (Ext.refl w16_)) (by omega) (by omega) fun v50 w17_ hx17_ o50=>?_
 have hs_hx17_:=hx17_.size
 refine zgW (lo:=w14_.heap.size) (hi:=w17_.heap.size) (by first | assumption | (unfold I64;omega)) (o50.ext (Ext.refl w17_)) fun v51 o51=>?_
 refine zdr zcn (hv4_c16.ext hx17_) (o51.ext (Ext.refl w17_)) (by omega) fun w18_ hc18_ hv4_s18=>?_
 have hs_hc18_:=hc18_.size
 have o40_c18:=(o40_c16.ext hx17_).chg hc18_ (by omega)
 have o45_c18:=(o45_c16.ext hx17_).chg hc18_ (by omega)
 have o49_c18:=(o49.ext hx17_).chg hc18_ (by omega)
 have o50_c18:=(o50.ext (Ext.refl w17_)).chg hc18_ (by omega)
 have o51_c18:=(o51.ext (Ext.refl w17_)).chg hc18_ (by omega)
 refine zd7 zcn hv4_s18 (Ext.refl w18_) fun r4 hr4=>?_
 replace hr4:=hr4.ext (Ext.refl w18_)
 refine ⟨(ChgI.out (ChgI.trans (ChgI.trans (ChgI.trans (ChgI.trans (ChgI.trans (ChgI.trans (ChgI.trans (Ext.toI hx1_) hc2_) (Ext.toI hx3_)) (Ext.toI hx13_)) hc14_) hc15_) hc16_) (Ext.toI hx17_)) hc18_ (by omega)),?_⟩
 rw [zjq (by omega) (by omega) (by omega)]
 exact ⟨(CurAt.chg (CurAt.ext hC16_ hx17_) hc18_ (by omega) (by omega)),hr4.mono (by omega) (by omega)⟩
theorem zhD:∀ (n:Nat),n≤10→zpU n
 | n,hn=>by
   intro h hd
   exact zjr h hd (fun m hm=>zhD m (by omega)) hn
end Go.Proofs.YtcnglfeoglgebaaGreat
namespace Go.Sh
open Rep (rep)
theorem Ext.chgL {F:List Nat} {W w w':World} (h:Ext W w) (k:Chg F w w') (hl:∀ c∈F,W.heap.size≤c):Ext W w':=
 ⟨k.os.trans h.os,k.tape.trans h.tape,k.output.trans h.output,Nat.le_trans h.size k.size,fun i hi=>(k.block i (Nat.lt_of_lt_of_le hi h.size) fun e=>by have:=hl i e;omega).trans (h.block i hi)⟩
theorem Mine.chgF {α:Type} [Rep α] {F G:List Nat} {w w':World} {v:Value} {x:α} (h:Mine F w v x) (hc:Chg G w w') (hd:∀ c∈F,c∉G):Mine F w' v x:=h.keep fun c hcm=>hc.block c (h.lt c hcm) (hd c hcm)
section
variable {α:Type} [Rep α] {lo hi:Nat} {w w':World} {v:Value} {x:α}
end
end Go.Sh
namespace Go.Proofs.YtcnglfeoglgebaaGreat
open Go Go.Sh Go.Proofs
open Rep (rep)
theorem CurAt.chgF {W w w':World} {g:Nat} {bs:List UInt8} {s:Cur} {F:List Nat} (h:CurAt W g bs s w) (hc:Chg F w w') (hg:g∉F) (hl:∀ c∈F,W.heap.size≤c):CurAt W g bs s w':=by
 obtain ⟨v,h0,hx,h2,h3,h4⟩:=h
 exact ⟨v,h0,hx.chgL hc hl,h2,h3.chg hc hg,h4⟩
theorem zpV {a:Prop} [Decidable a] {Q kt kf:Prop} (hq:a→Q) (key:Q→kt) (rest:(Q→kt)→¬a→kf):BR (.bool (decide a)) kt kf:=br (fun h=>key (hq h)) fun h=>rest key h
theorem zqK {α:Type} {D r:List α} {x y:α} {k:Nat} (h:D.length=k):(D++x :: r).set k y=D++y :: r:=by
 subst h;rw [List.set_append_right _ _ (Nat.le_refl _)];simp
theorem zqL {α:Type} {D r:List α} {x:α} {k:Nat} (h:D.length=k) (hk:k<(D++x :: r).length):(D++x :: r)[k]=x:=by
 subst h;simp
section
variable (G L P:List ByteArray)
mutual
def emS:DStmt→Nat→List DIns
  | .mk k n t b e,at_=>
    if k=1 then [⟨1,plc n G,t,0⟩]
    else if k=4 then [⟨4,plc n P,zaM,0⟩]
    else if k=5 then [⟨5,plc n P,zaM,0⟩]
    else if k=6 then [⟨6,plc n L,zaM,0⟩]
    else if k=7 then [⟨7,plc n L,zaM,0⟩]
    else if k=8 then [⟨8,0,zaM,0⟩]
    else if k=3 then ⟨2,0,t,((at_+1+(emL b (at_+1)).length+1:Nat):Int)⟩ :: (emL b (at_+1)++[⟨3,0,zaM,(at_:Int)⟩])
    else if k=2 then
      (if e.length=0 then ⟨2,0,t,((at_+1+(emL b (at_+1)).length:Nat):Int)⟩ :: emL b (at_+1)
      else ⟨2,0,t,((at_+1+(emL b (at_+1)).length+1:Nat):Int)⟩ :: (emL b (at_+1) ++
        (⟨3,0,zaM,((at_+1+(emL b (at_+1)).length+1+(emL e (at_+1+(emL b (at_+1)).length+1)).length:Nat):Int)⟩ :: emL e (at_+1+(emL b (at_+1)).length+1))))
    else []
def emL:List DStmt→Nat→List DIns
  | [],_=>[]
  | x :: l,at_=>emS x at_++emL l (at_+(emS x at_).length)
end
def InsQ (x:DIns) (lo hi:Nat):Prop:=1≤x.op∧x.op≤8 ∧
 (0≤x.arg∧x.arg<if x.op=1 then (G.length:Int) else if x.op=4∨x.op=5 then P.length else if x.op=6∨x.op=7 then L.length else 1) ∧
 (if x.op=1∨x.op=2 then TmR G x.term else x.term=zaM)∧(if x.op=2∨x.op=3 then (lo:Int)≤x.to∧x.to≤hi else x.to=0)
end
section
variable {G L P:List ByteArray}
theorem InsQ.mono {x:DIns} {lo hi lo' hi':Nat} (h:InsQ G L P x lo hi) (h1:lo'≤lo) (h2:hi≤hi'):InsQ G L P x lo' hi':=by
 obtain ⟨a,b,c,d,e⟩:=h
 refine ⟨a,b,c,d,?_⟩
 split at e
 · rename_i hh;rw [if_pos hh];omega
 rename_i hh;rw [if_neg hh];exact e
theorem zjs {n:ByteArray} {l:List ByteArray} (h:n∈l):0≤plc n l∧plc n l<l.length:=⟨zjZ.2 h,zkZ.2⟩
theorem zpW {op arg to:Int} {t:DTerm} {lo hi:Nat} (h1:1≤op) (h1':op≤8) (h2:0≤arg∧arg<if op=1 then (G.length:Int) else if op=4∨op=5 then P.length else if op=6∨op=7 then L.length else 1)
   (h3:if op=1∨op=2 then TmR G t else t=zaM) (h4:if op=2∨op=3 then (lo:Int)≤to∧to≤hi else to=0):InsQ G L P ⟨op,arg,t,to⟩ lo hi:=⟨h1,h1',h2,h3,h4⟩
theorem znY {t:DTerm} (ht:TmR G t) {to lo hi:Nat} (h1:lo≤to) (h2:to≤hi):InsQ G L P ⟨2,0,t,(to:Int)⟩ lo hi:=
 zpW (by decide) (by decide) (by rw [if_neg (by decide),if_neg (by decide),if_neg (by decide)];decide) (by rw [if_pos (.inr rfl)];exact ht) (by rw [if_pos (.inl rfl)];omega)
theorem zpX {to lo hi:Nat} (h1:lo≤to) (h2:to≤hi):InsQ G L P ⟨3,0,zaM,(to:Int)⟩ lo hi:=
 zpW (by decide) (by decide) (by rw [if_neg (by decide),if_neg (by decide),if_neg (by decide)];decide) (by rw [if_neg (by decide)]) (by rw [if_pos (.inr rfl)];omega)
theorem zsl {c:Scp} (hG:G=c.gl) (hL:L=c.lk) (hP:∀ x∈c.pr,x∈P):∀ (n:Nat),
   (∀ (t:DStmt) (a:Nat),StR c n t→(∀ x∈emS G L P t a,InsQ G L P x a (a+(emS G L P t a).length))∧(emS G L P t a).length≤2*szS t) ∧
   ∀ (l:List DStmt) (a:Nat),(∀ x∈l,StR c n x)→(∀ x∈emL G L P l a,InsQ G L P x a (a+(emL G L P l a).length))∧(emL G L P l a).length≤2*szL l:=by
 have hl:∀ n,(∀ (t:DStmt) (a:Nat),StR c n t→(∀ x∈emS G L P t a,InsQ G L P x a (a+(emS G L P t a).length))∧(emS G L P t a).length≤2*szS t) →
     ∀ (l:List DStmt) (a:Nat),(∀ x∈l,StR c n x)→(∀ x∈emL G L P l a,InsQ G L P x a (a+(emL G L P l a).length))∧(emL G L P l a).length≤2*szL l:=by
   intro n hs l
   induction l with
   | nil=>intro a _;rw [emL];exact ⟨(fun x hx=>by cases hx),Nat.zero_le _⟩
   | cons t l ih=>
     intro a h
     have h1:=hs t a (h t (by simp))
     have h2:=ih (a+(emS G L P t a).length) fun x hx=>h x (by simp [hx])
     rw [emL,szL]
     generalize emS G L P t a=u at *
     generalize emL G L P l (a+u.length)=v at *
     rw [List.length_append]
     refine ⟨fun x hx=>?_,by omega⟩
     rcases List.mem_append.1 hx with hx | hx
     · exact (h1.1 x hx).mono (Nat.le_refl _) (by omega)
     exact (h2.1 x hx).mono (by omega) (by omega)
 have h0:∀ (t:DStmt) (a:Nat),St0 c t→(∀ x∈emS G L P t a,InsQ G L P x a (a+(emS G L P t a).length))∧(emS G L P t a).length≤2*szS t:=by
   rintro ⟨k,n,t,b,e⟩ a h
   rw [emS,szS]
   rcases h with ⟨hk,hn,ht,_,_⟩ | ⟨hk,hn,_⟩ | ⟨hk,hn,_⟩ | ⟨hk,hn,_⟩
   · have hk:k=1:=hk
     have hn:n∈c.gl:=hn
     rw [if_pos hk]
     refine ⟨fun x hx=>?_,by simp;omega⟩
     simp only [List.mem_cons,List.not_mem_nil,or_false] at hx
     subst hx
     exact zpW (by decide) (by decide) (by rw [if_pos rfl];exact zjs (by rw [hG];exact hn)) (by rw [if_pos (.inl rfl)];exact hG▸ht) (by rw [if_neg (by decide)])
   · have hk:k=4∨k=5:=hk
     have hn:n∈c.pr:=hn
     rw [if_neg (by omega)]
     rcases hk with hk | hk
     · rw [if_pos hk]
       refine ⟨fun x hx=>?_,by simp;omega⟩
       simp only [List.mem_cons,List.not_mem_nil,or_false] at hx
       subst hx
       exact zpW (by decide) (by decide) (by rw [if_neg (by decide),if_pos (.inl rfl)];exact zjs (hP _ hn)) (by rw [if_neg (by decide)]) (by rw [if_neg (by decide)])
     rw [if_neg (by omega),if_pos hk]
     refine ⟨fun x hx=>?_,by simp;omega⟩
     simp only [List.mem_cons,List.not_mem_nil,or_false] at hx
     subst hx
     exact zpW (by decide) (by decide) (by rw [if_neg (by decide),if_pos (.inr rfl)];exact zjs (hP _ hn)) (by rw [if_neg (by decide)]) (by rw [if_neg (by decide)])
   · have hk:k=6∨k=7:=hk
     have hn:n∈c.lk:=hn
     rw [if_neg (by omega),if_neg (by omega),if_neg (by omega)]
     rcases hk with hk | hk
     · rw [if_pos hk]
       refine ⟨fun x hx=>?_,by simp;omega⟩
       simp only [List.mem_cons,List.not_mem_nil,or_false] at hx
       subst hx
       exact zpW (by decide) (by decide) (by rw [if_neg (by decide),if_neg (by decide),if_pos (.inl rfl)];exact zjs (by rw [hL];exact hn)) (by rw [if_neg (by decide)]) (by rw [if_neg (by decide)])
     rw [if_neg (by omega),if_pos hk]
     refine ⟨fun x hx=>?_,by simp;omega⟩
     simp only [List.mem_cons,List.not_mem_nil,or_false] at hx
     subst hx
     exact zpW (by decide) (by decide) (by rw [if_neg (by decide),if_neg (by decide),if_pos (.inr rfl)];exact zjs (by rw [hL];exact hn)) (by rw [if_neg (by decide)]) (by rw [if_neg (by decide)])
   have hk:k=8:=hk
   rw [if_neg (by omega),if_neg (by omega),if_neg (by omega),if_neg (by omega),if_neg (by omega),if_pos hk]
   refine ⟨fun x hx=>?_,by simp;omega⟩
   simp only [List.mem_cons,List.not_mem_nil,or_false] at hx
   subst hx
   exact zpW (by decide) (by decide) (by rw [if_neg (by decide),if_neg (by decide),if_neg (by decide)];decide) (by rw [if_neg (by decide)]) (by rw [if_neg (by decide)])
 intro n
 induction n with
 | zero=>exact ⟨fun t a h=>h0 t a h.zero,hl 0 fun t a h=>h0 t a h.zero⟩
 | succ n ih=>
   have hs:∀ (t:DStmt) (a:Nat),StR c (n+1) t→(∀ x∈emS G L P t a,InsQ G L P x a (a+(emS G L P t a).length))∧(emS G L P t a).length≤2*szS t:=by
     intro t a h
     rcases h.succ with h | ⟨hk,hn,ht,hb,he⟩
     · exact h0 t a h
     obtain ⟨k,nm,t,b,e⟩:=t
     have hq:k=2∨k=3∧e=[]:=hk
     clear hk
     replace ht:TmR G t:=hG▸ht
     have h1:=ih.2 b (a+1) hb
     have h2:=ih.2 e (a+1+(emL G L P b (a+1)).length+1) he
     rw [emS,szS,if_neg (by omega),if_neg (by omega),if_neg (by omega),if_neg (by omega),if_neg (by omega),if_neg (by omega)]
     generalize emL G L P b (a+1)=u at *
     generalize emL G L P e (a+1+u.length+1)=v at *
     rcases hq with hq | ⟨hq,rfl⟩
     · rw [if_neg (by omega),if_pos hq]
       split
       · refine ⟨fun x hx=>?_,by simp only [List.length_cons];omega⟩
         rw [List.length_cons]
         rcases List.mem_cons.1 hx with rfl | hx
         · exact znY ht (by omega) (by omega)
         exact (h1.1 x hx).mono (by omega) (by omega)
       rename_i hne
       refine ⟨fun x hx=>?_,?_⟩
       · simp only [List.length_cons,List.length_append]
         rcases List.mem_cons.1 hx with rfl | hx
         · exact znY ht (by omega) (by omega)
         rcases List.mem_append.1 hx with hx | hx
         · exact (h1.1 x hx).mono (by omega) (by omega)
         rcases List.mem_cons.1 hx with rfl | hx
         · exact zpX (by omega) (by omega)
         exact (h2.1 x hx).mono (by omega) (by omega)
       have:=znU e
       simp only [List.length_cons,List.length_append];omega
     rw [if_pos hq]
     refine ⟨fun x hx=>?_,by simp only [List.length_cons,List.length_append,List.length_nil];omega⟩
     simp only [List.length_cons,List.length_append,List.length_nil]
     rcases List.mem_cons.1 hx with rfl | hx
     · exact znY ht (by omega) (by omega)
     rcases List.mem_append.1 hx with hx | hx
     · exact (h1.1 x hx).mono (by omega) (by omega)
     simp only [List.mem_cons,List.not_mem_nil,or_false] at hx
     subst hx
     exact zpX (by omega) (by omega)
   exact ⟨hs,hl (n+1) hs⟩
end
def zqM:DIns:=⟨9,0,zaM,0⟩
section
variable (G L P:List ByteArray)
def emP:List DProc→Nat→List DIns
 | [],_=>[]
 | x :: l,a=>emL G L P x.body a++(zqM :: emP l (a+(emL G L P x.body a).length+1))
def zjt:List DProc→Nat→List Int
 | [],_=>[]
 | x :: l,a=>(a:Int) :: zjt l (a+(emL G L P x.body a).length+1)
end
def zbu (p:DProg):DCode:=
 ⟨p.globals,p.locks,p.procs.map DProc.name,zjt p.globals p.locks (p.procs.map DProc.name) p.procs 0,emP p.globals p.locks (p.procs.map DProc.name) p.procs 0⟩
theorem zit (G L P:List ByteArray):∀ (l:List DProc) (a:Nat),(zjt G L P l a).length=l.length
 | [],_=>by rw [zjt];rfl
 | x :: l,a=>by rw [zjt,List.length_cons,List.length_cons,zit G L P l]
theorem zpY (G L P:List ByteArray):∀ (l:List DProc) (a i:Nat) (hi:i<l.length),∃ s,(zjt G L P l a)[i]?=some ((a+s:Nat):Int)∧s+(emL G L P l[i].body (a+s)).length+1≤(emP G L P l a).length ∧
   (∀ k,k<(emL G L P l[i].body (a+s)).length→(emP G L P l a)[s+k]?=(emL G L P l[i].body (a+s))[k]?)∧(emP G L P l a)[s+(emL G L P l[i].body (a+s)).length]?=some zqM ∧
   (i=0→s=0)∧(i+1<l.length→(zjt G L P l a)[i+1]?=some ((a+s+(emL G L P l[i].body (a+s)).length+1:Nat):Int))∧(i+1=l.length→s+(emL G L P l[i].body (a+s)).length+1=(emP G L P l a).length)
 | x :: l,a,0,hi=>by
   refine ⟨0,?_⟩
   simp only [Nat.add_zero,Nat.zero_add,List.getElem_cons_zero]
   rw [zjt,emP]
   generalize emL G L P x.body a=u
   refine ⟨by simp,by simp,fun k hk=>List.getElem?_append_left hk,by simp,by simp,fun h=>?_,fun h=>?_⟩
   · cases l with
     | nil=>simp at h
     | cons y l=>rw [zjt];rfl
   have:l=[]:=List.eq_nil_of_length_eq_zero (by simpa using h)
   subst this
   rw [emP];simp
 | x :: l,a,i+1,hi=>by
   obtain ⟨s,h1,h2,h3,h4,h5,h6,h7⟩:=zpY G L P l (a+(emL G L P x.body a).length+1) i (by simpa using hi)
   refine ⟨(emL G L P x.body a).length+1+s,?_⟩
   simp only [List.getElem_cons_succ]
   rw [zjt,emP]
   have e:a+((emL G L P x.body a).length+1+s)=a+(emL G L P x.body a).length+1+s:=by omega
   rw [e]
   generalize emL G L P x.body a=u at *
   have hil:i<l.length:=by simpa using hi
   generalize emL G L P (l[i]'hil).body (a+u.length+1+s)=v at *
   have sh:∀ (q:Nat) (m:List DIns),(u++zqM :: m)[u.length+1+q]?=m[q]?:=by
     intro q m
     rw [List.getElem?_append_right (by omega),show u.length+1+q-u.length=q+1 by omega,List.getElem?_cons_succ]
   refine ⟨by simpa using h1,by simp only [List.length_append,List.length_cons];omega,fun k hk=>?_,?_,fun h=>by omega,fun h=>?_,fun h=>?_⟩
   · rw [show u.length+1+s+k=u.length+1+(s+k) by omega,sh];exact h3 k hk
   · rw [show u.length+1+s+v.length=u.length+1+(s+v.length) by omega,sh];exact h4
   · rw [List.getElem?_cons_succ];exact h6 (by simpa using h)
   have:=h7 (by simpa using h)
   simp only [List.length_append,List.length_cons];omega
theorem znZ (G L P:List ByteArray) {m:Nat}:∀ (l:List DProc) (a:Nat),(∀ x∈l,∀ b,(emL G L P x.body b).length≤m)→(emP G L P l a).length≤l.length*(m+1)
 | [],_,_=>by rw [emP];simp
 | x :: l,a,h=>by
   have h1:=h x (by simp) a
   have h2:=znZ G L P l (a+(emL G L P x.body a).length+1) fun y hy=>h y (by simp [hy])
   rw [emP,List.length_append,List.length_cons,List.length_cons,Nat.add_mul,Nat.one_mul]
   omega
theorem ziu {α:Type} {l:List α} {i:Nat} {x d:α} (h:l[i]?=some x):l.getD i d=x:=by rw [List.getD_eq_getElem?_getD,h];rfl
theorem zju:∀ k,k<4→(prc4.take (1+k)).length≤4∧(prc4.take (1+k)).all za9=true∧(prc4.take (1+k)).Nodup∧zbz∈prc4.take (1+k)
 | 0,_=>by decide
 | 1,_=>by decide
 | 2,_=>by decide
 | 3,_=>by decide
 | k+4,h=>absurd h (by omega)
theorem code_at {p:DProg} (hp:ProgR p) {i:Nat} (hi:i<p.procs.length):∃ s n:Nat,en (zbu p) i=(s:Int)∧zb4 (zbu p) i=((s+n+1:Nat):Int)∧s+n+1≤(zbu p).ins.length ∧
   (∀ k,k<n→InsQ (zbu p).globals (zbu p).locks (zbu p).procs (zah (zbu p) (s+k)) s (s+n))∧zah (zbu p) (s+n)=zqM∧(i=0→s=0):=by
 obtain ⟨s,h1,h2,h3,h4,h5,h6,h7⟩:=zpY p.globals p.locks (p.procs.map DProc.name) p.procs 0 i hi
 simp only [Nat.zero_add] at h1 h2 h3 h4 h5 h6 h7
 have hb:=hp.b _ (List.getElem_mem hi)
 have hr:=(zsl (G:=p.globals) (L:=p.locks) (P:=p.procs.map DProc.name) (c:=⟨p.globals,p.locks,(p.procs.map DProc.name).drop 1⟩) rfl rfl (fun x hx=>List.mem_of_mem_drop hx) 2).2 p.procs[i].body s hb.1
 generalize emL p.globals p.locks (p.procs.map DProc.name) p.procs[i].body s=u at *
 refine ⟨s,u.length,ziu h1,?_,h2,fun k hk=>?_,ziu h4,h5⟩
 · unfold zb4
   have hl:(zbu p).entry.length=p.procs.length:=zit _ _ _ _ _
   split
   · rename_i hh;exact ziu (h6 (by omega))
   rename_i hh;show ((emP _ _ _ _ _).length:Int)=_;rw [←h7 (by omega)]
 have e:zah (zbu p) (s+k)=u[k]:=ziu (by
   have:=h3 k hk
   rw [List.getElem?_eq_getElem hk] at this
   exact this)
 rw [e]
 exact (hr.1 _ (List.getElem_mem hk)).mono (Nat.le_refl _) (Nat.le_refl _)
theorem zhE {p:DProg} (hp:ProgR p):CodeR (zbu p)∧(zbu p).ins.length≤436:=by
 obtain ⟨k,hk,hn⟩:=hp.n
 obtain ⟨n1,n2,n3,n4⟩:=zju k hk
 have hl:(zbu p).entry.length=p.procs.length:=zit _ _ _ _ _
 have hpl:(p.procs.map DProc.name).length=p.procs.length:=List.length_map _
 have hp4:p.procs.length≤4:=by rw [←hpl,hn];exact n1
 have hN:NamesR (zbu p):=by
   refine ⟨?_,?_,?_,?_,?_,?_,?_⟩
   · show (decide ((p.globals.length:Int)≤6)&&p.globals.all za9)=true
     rcases hp.g with e | e<;>(rw [e];decide)
   · show (decide ((p.locks.length:Int)≤6)&&p.locks.all za9)=true
     rcases hp.l with e | e | e<;>(rw [e];decide)
   · show (decide (((p.procs.map DProc.name).length:Int)≤8)&&(p.procs.map DProc.name).all za9)=true
     rw [hn,n2,decide_eq_true (by omega)];rfl
   · show p.globals.Nodup
     rcases hp.g with e | e<;>(rw [e];decide)
   · show p.locks.Nodup
     rcases hp.l with e | e | e<;>(rw [e];decide)
   · show (p.procs.map DProc.name).Nodup
     rw [hn];exact n3
   show zbz∈p.procs.map DProc.name
   rw [hn];exact n4
 have hil:(zbu p).ins.length≤436:=by
   have:=znZ p.globals p.locks (p.procs.map DProc.name) (m:=108) p.procs 0 fun x hx b=>by
     have hb:=hp.b x hx
     have hr:=(zsl (G:=p.globals) (L:=p.locks) (P:=p.procs.map DProc.name) (c:=⟨p.globals,p.locks,(p.procs.map DProc.name).drop 1⟩) rfl rfl (fun x hx=>List.mem_of_mem_drop hx) 2).2 x.body b hb.1
     have:=hb.2
     omega
   show (emP _ _ _ _ _).length≤436
   omega
 have h0:0<p.procs.length:=by
   rw [←hpl,hn];exact List.length_pos_of_mem n4
 have hF:EntF (zbu p):=by
   refine ⟨by rw [hl];exact hpl.symm,by omega,?_,fun i hi=>?_⟩
   · obtain ⟨s,n,e1,_,_,_,_,e0⟩:=code_at hp h0
     rw [e1,e0 rfl];rfl
   obtain ⟨s,n,e1,e2,e3,_,_,_⟩:=code_at hp (i:=i) (by omega)
   rw [e1,e2];omega
 have hpp:0<(zbu p).procs.length:=by show 0<(p.procs.map DProc.name).length;omega
 have hfind:∀ j:Nat,j<(zbu p).ins.length→∃ i s n:Nat,i<p.procs.length∧en (zbu p) i=(s:Int)∧zb4 (zbu p) i=((s+n+1:Nat):Int)∧s≤j∧j≤s+n∧zap (zbu p) j=i ∧
     (∀ k,k<n→InsQ (zbu p).globals (zbu p).locks (zbu p).procs (zah (zbu p) (s+k)) s (s+n))∧zah (zbu p) (s+n)=zqM:=by
   intro j hj
   obtain ⟨i,hi,a1,a2,a3⟩:=hF.find hpp (a:=(j:Int)) (by omega) (by omega)
   obtain ⟨s,n,e1,e2,e3,e4,e5,_⟩:=code_at hp (i:=i) (by omega)
   rw [e1] at a1
   rw [e2] at a2
   exact ⟨i,s,n,by omega,e1,e2,by omega,by omega,a3,e4,e5⟩
 have hends:∀ (i:Nat),zj1 (zbu p) i=zb4 (zbu p) i-1:=fun i=>zco _ i
 refine ⟨⟨hN,⟨hF.len,hF.ins,fun i hi=>⟨fun h=>by subst h;exact hF.zero,fun h=>?_,?_⟩,fun j hj=>?_⟩,fun j hj=>?_⟩,hil⟩
 · have h1:=(hF.lt (i-1) (by omega)).1
   rw [hF.step (by omega),show i-1+1=i by omega] at h1
   exact h1
 · have:=hF.lt i hi;omega
 · obtain ⟨i,s,n,hi,e1,e2,a1,a2,a3,e4,e5⟩:=hfind j hj
   rw [a3,hends,e2]
   constructor
   · intro h9
     by_cases hjn:j=s+n
     · omega
     have:=e4 (j-s) (by omega)
     rw [show s+(j-s)=j by omega] at this
     have:=this.2.1
     omega
   intro h9
   have:j=s+n:=by omega
   rw [this,e5];rfl
 obtain ⟨i,s,n,hi,e1,e2,a1,a2,a3,e4,e5⟩:=hfind j hj
 rw [a3,hends,e2]
 simp only [Int.toNat_natCast]
 rw [e1]
 by_cases hjn:j=s+n
 · rw [hjn,e5]
   have ha:(0:Int)<zbX (zbu p) 9:=by
     unfold zbX
     rw [if_neg (by decide),if_neg (by decide),if_neg (by decide)];decide
   refine ⟨by decide,⟨by decide,ha⟩,by rw [if_neg (by decide)];rfl,by rw [if_neg (by decide)];rfl⟩
 have hq:=e4 (j-s) (by omega)
 rw [show s+(j-s)=j by omega] at hq
 generalize zah (zbu p) j=x at *
 obtain ⟨q1,q2,q3,q4,q5⟩:=hq
 refine ⟨⟨q1,by omega⟩,?_,?_,?_⟩
 · unfold zbX;exact q3
 · split at q4
   · rename_i hh
     rw [if_pos hh]
     refine ⟨q4.1,fun y hy=>?_⟩
     show y∈p.globals
     exact q4.2.1 y hy
   rename_i hh;rw [if_neg hh];exact q4
 split at q5
 · rename_i hh;rw [if_pos hh];omega
 rename_i hh;rw [if_neg hh];exact q5
def zr4 (t:DStmt):Prop:=(t.kind=1∧za9 t.name=true∧zaX 6 t.term=true∧t.body=[]∧t.els=[])∨((t.kind=4∨t.kind=5∨t.kind=6∨t.kind=7)∧za9 t.name=true∧t.term=zaM∧t.body=[]∧t.els=[]) ∨
 (t.kind=8∧t.name=ByteArray.mk #[]∧t.term=zaM∧t.body=[]∧t.els=[])∨(t.kind=2∧t.name=ByteArray.mk #[]∧zaX 6 t.term=true)∨(t.kind=3∧t.name=ByteArray.mk #[]∧zaX 6 t.term=true∧t.els=[])
def zr5 (c:Scp):Prop:=(∀ x∈c.gl,za9 x=true)∧(∀ x∈c.lk,za9 x=true)∧∀ x∈c.pr,za9 x=true
theorem StR.one {c:Scp} {n:Nat} {t:DStmt} (hp:zr5 c) (h:StR c n t):zr4 t:=by
 have h0:St0 c t→zr4 t:=fun h=>by
   rcases h with ⟨h1,h2,h3,h4,h5⟩ | ⟨h1,h2,h3,h4,h5⟩ | ⟨h1,h2,h3,h4,h5⟩ | ⟨h1,h2,h3,h4,h5⟩
   · exact .inl ⟨h1,hp.1 _ h2,h3.1,h4,h5⟩
   · exact .inr (.inl ⟨by omega,hp.2.2 _ h2,h3,h4,h5⟩)
   · exact .inr (.inl ⟨by omega,hp.2.1 _ h2,h3,h4,h5⟩)
   exact .inr (.inr (.inl ⟨h1,h2,h3,h4,h5⟩))
 cases n with
 | zero=>exact h0 h.zero
 | succ n=>
   rcases h.succ with h | ⟨h1,h2,h3,h4,h5⟩
   · exact h0 h
   rcases h1 with h1 | ⟨h1,h6⟩
   · exact .inr (.inr (.inr (.inl ⟨h1,h2,h3.1⟩)))
   exact .inr (.inr (.inr (.inr ⟨h1,h2,h3.1,h6⟩)))
theorem ProgR.facts {p:DProg} (hp:ProgR p):p.procs.length≤4∧(∀ x∈p.procs.map DProc.name,za9 x=true)∧(p.procs.map DProc.name).Nodup∧zbz∈p.procs.map DProc.name:=by
 obtain ⟨k,hk,hn⟩:=hp.n
 obtain ⟨n1,n2,n3,n4⟩:=zju k hk
 rw [←hn] at n1 n2 n3 n4
 rw [List.length_map] at n1
 exact ⟨n1,fun x hx=>List.all_eq_true.1 n2 x hx,n3,n4⟩
theorem ProgR.gn {p:DProg} (hp:ProgR p):∀ x∈p.globals,za9 x=true:=by
 intro x hx
 rcases hp.g with e | e<;>rw [e] at hx
 · exact zir hx
 exact zir (List.mem_of_mem_take hx)
theorem ProgR.ln {p:DProg} (hp:ProgR p):∀ x∈p.locks,za9 x=true:=by
 intro x hx
 rcases hp.l with e | e | e<;>rw [e] at hx
 · exact zis hx
 · exact zis (List.mem_of_mem_take hx)
 exact zis (List.mem_of_mem_take hx)
end Go.Proofs.YtcnglfeoglgebaaGreat
namespace Go.Sh
open Rep (rep)
instance:RepZ Raw:=⟨⟨.slice none 0 0⟩,[.slice none 0 0],fun _=>⟨rfl,rfl,rfl⟩⟩
abbrev RIns:=RV DIns 84
structure DEm where
 a:Raw
 b:Raw
 c:Raw
 ins:RIns
theorem DEm.ext_iff {x y:DEm}:x=y↔(x.a=y.a∧x.b=y.b∧x.c=y.c∧x.ins=y.ins):=⟨fun h=>by rw [h];exact ⟨rfl,rfl,rfl,rfl⟩,fun h=>by obtain ⟨h0,h1,h2,h3⟩:=h;cases x;cases y;simp only at h0 h1 h2 h3;simp only [h0,h1,h2,h3]⟩
instance:Rep DEm:=Rep.via fun x=>(x.a,x.b,x.c,x.ins)
instance:RepZ DEm:=⟨⟨(RepZ.zv:Raw),(RepZ.zv:Raw),(RepZ.zv:Raw),(RepZ.zv:RIns)⟩,RepZ.zc (Raw×Raw×Raw×RIns),fun w=>RepZ.zr (α:=Raw×Raw×Raw×RIns) w⟩
section
variable {P:Program} {w w':World} {lo hi:Nat}
theorem zfh {op arg to:Int} {t0 t1 t2 t3:Value} {t:DTerm} (h0:I64 op) (h1:I64 arg) (h2:I64 to) (ht:OwnI lo hi w (.agg #[t0,t1,t2,t3]) t):OwnI lo hi w (.agg #[.int .i64 op,.int .i64 arg,t0,t1,t2,t3,.int .i64 to]) (⟨op,arg,t,to⟩:DIns):=by
 obtain ⟨F,⟨⟨cs,hr,hv⟩,hnd,hw⟩,hF⟩:=ht
 have hcs:cs=[t0,t1,t2,t3]:=by
   simp only [mkv,Rep.agg,cond_true,Value.agg.injEq] at hv
   have:=congrArg Array.toList hv
   simpa using this.symm
 subst hcs
 refine ⟨F,⟨⟨[.int .i64 op,.int .i64 arg,t0,t1,t2,t3,.int .i64 to],?_,rfl⟩,hnd,hw⟩,hF⟩
 have:=zaj (F:=[]) (c1:=[.int .i64 op]) (show rep [] w [.int .i64 op] op from ⟨rfl,rfl,h0⟩) (zaj (F:=[]) (c1:=[.int .i64 arg]) (show rep [] w [.int .i64 arg] arg from ⟨rfl,rfl,h1⟩) (zaj hr (show rep [] w [.int .i64 to] to from ⟨rfl,rfl,h2⟩)))
 simp only [List.nil_append,List.append_nil] at this
 exact this
theorem zgX {α β:Type} [Rep α] [Rep β] {e b o g:Nat} {F G:List Nat} {t by_:Nat} {x:RV β e} {upd:RV β e→α} {w2:World} {v':Value} {l':List β} {G':List Nat} {K:World→Prop} (ht:tyI P t=some (1,by_,false)) (hL:Lens (VH g) (g :: F) w b o G x upd) (hlt:∀ c∈g :: F,c<w.heap.size) (hc:Chg G w w2)
   (hR:RowG G' e w2 v' l') (hN:G'.Nodup) (hs:∀ c∈G',c∈G∨c∉g :: F)
   (k:∀ w3,Chg (b :: G) w w3→(∃ F',OAt F' w3 g 0 (upd ⟨v',l'⟩)∧∀ c∈F',c∈g :: F∨c∈G')→K w3):OPU P (Instr.storeAt t (.pointer (some ⟨b,o,none⟩)) v') w2 K:=by
 obtain ⟨cs,⟨rfl,hrow⟩,hr,hn,hw,hb,hwb⟩:=hL.here
 have hbl:b<w.heap.size:=hlt b (hL.sub b (by simp))
 have hbk:w2.heap[b]?=w.heap[b]?:=hc.block b hbl hb
 have hwb2:∃ c e,w2.heap[b]?=some (.cells c e (0,0)):=by obtain ⟨c,e,h⟩:=hwb;exact ⟨c,e,by rw [hbk];exact h⟩
 have hbG':b∉G':=fun hm=>by
   rcases hs b hm with h | h
   · exact hb h
   exact h (hL.sub b (by simp))
 refine zoL ht hwb2 (zaS hr hbk) hrow.one hR.one fun w3 hc3 hr3=>?_
 have hcat:ChgAt b o 1 G w w3:=by
   refine ⟨(hc.mono (by simp +contextual)).trans (hc3.chg.mono (by simp +contextual)),fun c e hcc=>?_⟩
   obtain ⟨c',h1,h2⟩:=hc3.cell c e (by rw [hbk];exact hcc)
   exact ⟨c',h1,h2⟩
 have hkeep:∀ c∈G',w3.heap[c]?=w2.heap[c]?:=fun c hcm=>hc3.chg.block c (hR.lt c hcm) (by simp;exact fun e=>hbG' (e▸hcm))
 obtain ⟨c',e',hc'⟩:=hwb2
 obtain ⟨c'',hc'',_⟩:=hc3.cell c' e' hc'
 obtain ⟨F',h1,h2⟩:=hL.back w3 G' ⟨v',l'⟩ hcat ⟨[v'],⟨rfl,hR.keep hkeep⟩,hr3,hN,(hR.keep hkeep).wr,hbG',c'',e',hc''⟩ hs
 exact k w3 hcat.chg ⟨F',h1,h2⟩
end
end Go.Sh
namespace Go.Proofs.YtcnglfeoglgebaaGreat
open Go Go.Sh Go.Proofs
open Rep (rep)
section
variable {w:World} {lo hi:Nat} {K:Value→Prop}
theorem zmi {a b:Int} (ha:I64 a) (hb:I64 b) (k:∀ v,OwnI lo hi w v (⟨a,0,zaM,b⟩:DIns)→K v):RD Tryz.prog (Instr.build 84 #[(0,.int .i64 a),(3,.int .i64 b)]) w K:=
 zaz (cells:=#[.int .i64 a,.int .i64 0,.int .i64 0,.int .i64 0,.string nO,.slice none 0 0,.int .i64 b]) (by kernel_rfl) (k _ (zfh ha zgV hb zel))
theorem zgY {a:Int} (ha:I64 a) (k:∀ v,OwnI lo hi w v (⟨a,0,zaM,0⟩:DIns)→K v):RD Tryz.prog (Instr.build 84 #[(0,.int .i64 a)]) w K:=
 zaz (cells:=#[.int .i64 a,.int .i64 0,.int .i64 0,.int .i64 0,.string nO,.slice none 0 0,.int .i64 0]) (by kernel_rfl) (k _ (zfh ha zgV zgV zel))
end
section
variable {W w w':World} {g:Nat} {p:DProg} {L:List DIns} {F:List Nat}
end
theorem zdC (G L P:List ByteArray) (x:DStmt) (a:Nat):emS G L P x a =
   if x.kind=1 then [⟨1,plc x.name G,x.term,0⟩]
   else if x.kind=4 then [⟨4,plc x.name P,zaM,0⟩]
   else if x.kind=5 then [⟨5,plc x.name P,zaM,0⟩]
   else if x.kind=6 then [⟨6,plc x.name L,zaM,0⟩]
   else if x.kind=7 then [⟨7,plc x.name L,zaM,0⟩]
   else if x.kind=8 then [⟨8,0,zaM,0⟩]
   else if x.kind=3 then ⟨2,0,x.term,((a+1+(emL G L P x.body (a+1)).length+1:Nat):Int)⟩ :: (emL G L P x.body (a+1)++[⟨3,0,zaM,(a:Int)⟩])
   else if x.kind=2 then
     (if x.els.length=0 then ⟨2,0,x.term,((a+1+(emL G L P x.body (a+1)).length:Nat):Int)⟩ :: emL G L P x.body (a+1)
     else ⟨2,0,x.term,((a+1+(emL G L P x.body (a+1)).length+1:Nat):Int)⟩ :: (emL G L P x.body (a+1) ++
       (⟨3,0,zaM,((a+1+(emL G L P x.body (a+1)).length+1+(emL G L P x.els (a+1+(emL G L P x.body (a+1)).length+1)).length:Nat):Int)⟩ :: emL G L P x.els (a+1+(emL G L P x.body (a+1)).length+1))))
   else []:=by cases x;rw [emS];rfl
section
variable (G L P:List ByteArray)
mutual
theorem zn0:∀ (x:DStmt) (a:Nat),(emS G L P x a).length≤2*szS x
  | .mk k n t b e,a=>by
    have h1:=zfI b (a+1)
    have h2:=zfI e (a+1+(emL G L P b (a+1)).length+1)
    rw [emS,szS]
    repeat' split
    all_goals simp only [List.length_cons,List.length_nil,List.length_append];omega
theorem zfI:∀ (l:List DStmt) (a:Nat),(emL G L P l a).length≤2*szL l
  | [],a=>by rw [emL];simp
  | x :: l,a=>by
    have h1:=zn0 x a
    have h2:=zfI l (a+(emS G L P x a).length)
    rw [emL,szL,List.length_append];omega
end
end
theorem zkv (x:DStmt):szS x=1+szL x.body+szL x.els:=by cases x;rw [szS];rfl
theorem za6 {g:Nat} {F F1:List Nat} {w w1 w2:World} (h:Chg (g :: F) w w1) (k:Chg (g :: F1) w1 w2) (hF:∀ c∈F1,c∈F∨w.heap.size≤c):Chg (g :: F) w w2:=
 ⟨k.os.trans h.os,k.tape.trans h.tape,k.output.trans h.output,Nat.le_trans h.size k.size,fun b hb hn=>(k.block b (Nat.lt_of_lt_of_le hb h.size) fun hm=>by
   simp only [List.mem_cons,not_or] at hn
   rcases List.mem_cons.1 hm with e | hm
   · exact hn.1 e
   rcases hF b hm with h | h
   · exact hn.2 h
   omega).trans (h.block b hb hn)⟩
theorem zqN {W w:World} {b:Nat} {x:DStmt} (h:AtB W w b 0 x):AtB W w b (0+6) x.body:=by
 obtain ⟨F,cs,hr,hc⟩:=h
 have h:AtB W w b 0 x.tup:=⟨F,cs,zcU.1 hr,hc⟩
 exact h.snd.snd.snd.fst
theorem zqO {W w:World} {b:Nat} {x:DStmt} (h:AtB W w b 0 x):AtB W w b (0+7) x.els:=by
 obtain ⟨F,cs,hr,hc⟩:=h
 have h:AtB W w b 0 x.tup:=⟨F,cs,zcU.1 hr,hc⟩
 exact h.snd.snd.snd.snd
abbrev Raw5:=Raw×Raw×Raw×Raw×Raw
theorem zjv {w:World} {lo hi:Nat} {a b c d e:Value} (ha:a.oneCell'=true) (hb:b.oneCell'=true) (hc:c.oneCell'=true) (hd:d.oneCell'=true) (he:e.oneCell'=true):OwnI lo hi w (.agg #[a,b,c,d,e]) ((⟨a⟩,⟨b⟩,⟨c⟩,⟨d⟩,⟨e⟩):Raw5):=by
 refine ⟨[],⟨⟨[a,b,c,d,e],?_,rfl⟩,List.nodup_nil,Wr.nil _⟩,by simp⟩
 have r:∀ {v:Value},v.oneCell'=true→rep [] w [v] (⟨v⟩:Raw):=fun h=>⟨rfl,rfl,h⟩
 exact zaj (F:=[]) (r ha) (zaj (F:=[]) (r hb) (zaj (F:=[]) (r hc) (zaj (F:=[]) (r hd) (r he))))
theorem ziv {α:Type} [Rep α] (ha:Rep.agg α=false) {lo hi:Nat} {w:World} {v:Value} {x:α} (h:OwnI lo hi w v x):v.oneCell'=true:=by
 obtain ⟨F,⟨hm,_,_⟩,_⟩:=h
 exact Rep.one (zda ha hm) v (by simp)
section
variable {W:World} {p:DProg} {gk ge bs x2 l3 h3 l7 h7:Nat} {v14 v18 vp ve:Value} {N:List ByteArray} {E:List Int} {L:List DIns} {Fp Fe Fi:List Nat} {w w':World}
theorem zfJ {α:Type} [Rep α] {lo hi:Nat} {v:Value} {x:α} {S:List Nat} (h:OwnI lo hi w v x) (hc:Chg S w w') (hd:∀ c∈S,c<lo∨hi≤c):OwnI lo hi w' v x:=by
 obtain ⟨F,hm,hF⟩:=h
 exact ⟨F,hm.keep fun c hcm=>hc.block c (hm.lt c hcm) fun hs=>by have:=hF c hcm;have:=hd c hs;omega,hF⟩
variable (ho:gk<bs∧ge<bs∧gk≠ge∧x2<bs∧x2≠gk∧x2≠ge∧h3≤bs∧h7≤bs∧(gk<l3∨h3≤gk)∧(gk<l7∨h7≤gk)∧(ge<l3∨h3≤ge)∧(ge<l7∨h7≤ge)∧W.heap.size≤gk∧W.heap.size≤ge)
include ho
end
theorem zpi {G L P:List ByteArray} {l:List DProc} {k:Nat} (hk:k<l.length) (a:Nat):emP G L P (l.drop k) a=emL G L P l[k].body a++(zqM :: emP G L P (l.drop (k+1)) (a+(emL G L P l[k].body a).length+1)):=by
 rw [List.drop_eq_getElem_cons hk,emP]
theorem zn1 {G L P:List ByteArray} {l:List DProc} {k:Nat} (hk:k<l.length) (a:Nat):zjt G L P (l.drop k) a=(a:Int) :: zjt G L P (l.drop (k+1)) (a+(emL G L P l[k].body a).length+1):=by
 rw [List.drop_eq_getElem_cons hk,zjt]
theorem zjw {α:Type} [Rep α] {e:TypeId} {F:List Nat} {w:World} {v:Value} {l:List α} (h:RowG F e w v l) (hn:F.Nodup):Mine F w v l:=⟨h.own,hn,h.wr⟩
def F177 (a0 a1 a2:Value) (w:World) (R:VW):Prop:=
 rN 29 3 a0 w fun x10=>
 LOOPI [11] [(iV 0)] w fun u2 w next2=>
 rC (u2 11) x10 w fun x12=>
 BR x12
 (rX 29 a0 (u2 11) w fun x13=>
 rL 56 x13 w fun x14=>
 oP (Instr.alloc 56 true (.tuple #[])) w fun x8 w=>
 oS 56 x8 x14 w fun w=>
 NIL a2 <|
 rL 3 a2 w fun x17=>
 rB .sub 3 T0 U0 x17 (iV 1) w fun x18=>
 NIL a2 <|
 oS 3 a2 x18 w fun w=>
 NIL a2 <|
 rL 3 a2 w fun x22=>
 rB .lss 3 T0 U0 x22 (iV 0) w fun x23=>
 BR x23
 (R (Value.bool false) w)
 (rL 56 x8 w fun x25=>
 cL 242 [x25] w fun x26 w=>
 rD (Op.unary .not x26) w fun x27=>
 BR x27
 (R (Value.bool false) w)
 (JOIN [] (fun J8=>
 rF 56 x8 0 w fun x29=>
 rL 3 x29 w fun x30=>
 rB .neq 3 T0 U0 x30 (iV 2) w fun x31=>
 BR x31
 (rF 56 x8 0 w fun x33=>
 rL 3 x33 w fun x34=>
 rB .neq 3 T0 U0 x34 (iV 3) w fun x35=>
 BR x35
 (rA (u2 11) (iV 1) w fun x57=>
 next2 [x57] w)
 (J8 [] w))
 (J8 [] w)) (fun u8 w=>
 rB .eql 3 T0 U0 a1 (iV 0) w fun x38=>
 BR x38
 (R (Value.bool false) w)
 (rF 56 x8 3 w fun x40=>
 rL 29 x40 w fun x41=>
 rB .sub 3 T0 U0 a1 (iV 1) w fun x43=>
 cL 177 [x41,x43,a2] w fun x45 w=>
 rD (Op.unary .not x45) w fun x46=>
 BR x46
 (R (Value.bool false) w)
 (rF 56 x8 4 w fun x49=>
 rL 29 x49 w fun x50=>
 rB .sub 3 T0 U0 a1 (iV 1) w fun x52=>
 cL 177 [x50,x52,a2] w fun x54 w=>
 rD (Op.unary .not x54) w fun x55=>
 BR x55
 (R (Value.bool false) w)
 (rA (u2 11) (iV 1) w fun x57=>
 next2 [x57] w)))))))
 (R (Value.bool true) w)
def cfg177:Cfg:=⟨extL,[(8,136902082560,[])],[(2,288230376151710016,[11])],[],[],[],[]⟩
theorem F177_call {a0 a1 a2:Value} {w:World} {R:VW} (h:F177 a0 a1 a2 w R):cL 177 [a0,a1,a2] w R:=co (g:=cfg177) Tryz.func177 (by kernel_rfl) (by kernel_rfl) (by kernel_rfl) h
def F242 (a0:Value) (w:World) (R:VW):Prop:=
 oP (Instr.box 56 a0) w fun x1 w=>
 rF 56 x1 0 w fun x3=>
 rL 3 x3 w fun x4=>
 rB .eql 3 T0 U0 x4 (iV 1) w fun x6=>
 BR x6
 (rF 56 x1 1 w fun x7=>
 rL 9 x7 w fun x8=>
 cL 176 [x8] w fun x9 w=>
 BR x9
 (rF 56 x1 2 w fun x11=>
 rL 53 x11 w fun x12=>
 cL 189 [x12] w fun x13 w=>
 BR x13
 (rF 56 x1 3 w fun x16=>
 rL 29 x16 w fun x17=>
 rN 29 3 x17 w fun x18=>
 rB .eql 3 T0 U0 x18 (iV 0) w fun x19=>
 BR x19
 (rF 56 x1 4 w fun x22=>
 rL 29 x22 w fun x23=>
 rN 29 3 x23 w fun x24=>
 rB .eql 3 T0 U0 x24 (iV 0) w fun x25=>
 R x25 w)
 (R (Value.bool false) w))
 (R (Value.bool false) w))
 (R (Value.bool false) w))
 (rB .eql 3 T0 U0 x4 (iV 2) w fun x28=>
 BR x28
 (rF 56 x1 1 w fun x29=>
 rL 9 x29 w fun x30=>
 rB .eql 9 T0 U0 x30 (Value.string (ByteArray.mk #[])) w fun x31=>
 BR x31
 (rF 56 x1 2 w fun x33=>
 rL 53 x33 w fun x34=>
 cL 189 [x34] w fun x35 w=>
 R x35 w)
 (R (Value.bool false) w))
 (rB .eql 3 T0 U0 x4 (iV 3) w fun x38=>
 BR x38
 (rF 56 x1 1 w fun x39=>
 rL 9 x39 w fun x40=>
 rB .eql 9 T0 U0 x40 (Value.string (ByteArray.mk #[])) w fun x41=>
 BR x41
 (rF 56 x1 2 w fun x43=>
 rL 53 x43 w fun x44=>
 cL 189 [x44] w fun x45 w=>
 BR x45
 (rF 56 x1 4 w fun x48=>
 rL 29 x48 w fun x49=>
 rN 29 3 x49 w fun x50=>
 rB .eql 3 T0 U0 x50 (iV 0) w fun x51=>
 R x51 w)
 (R (Value.bool false) w))
 (R (Value.bool false) w))
 (rB .eql 3 T0 U0 x4 (iV 4) w fun x54=>
 BR x54
 (rF 56 x1 1 w fun x58=>
 rL 9 x58 w fun x59=>
 cL 176 [x59] w fun x60 w=>
 BR x60
 (rF 56 x1 2 w fun x62=>
 rL 53 x62 w fun x63=>
 cL 190 [x63] w fun x64 w=>
 BR x64
 (rF 56 x1 3 w fun x67=>
 rL 29 x67 w fun x68=>
 rN 29 3 x68 w fun x69=>
 rB .eql 3 T0 U0 x69 (iV 0) w fun x70=>
 BR x70
 (rF 56 x1 4 w fun x73=>
 rL 29 x73 w fun x74=>
 rN 29 3 x74 w fun x75=>
 rB .eql 3 T0 U0 x75 (iV 0) w fun x76=>
 R x76 w)
 (R (Value.bool false) w))
 (R (Value.bool false) w))
 (R (Value.bool false) w))
 (rB .eql 3 T0 U0 x4 (iV 5) w fun x55=>
 BR x55
 (rF 56 x1 1 w fun x58=>
 rL 9 x58 w fun x59=>
 cL 176 [x59] w fun x60 w=>
 BR x60
 (rF 56 x1 2 w fun x62=>
 rL 53 x62 w fun x63=>
 cL 190 [x63] w fun x64 w=>
 BR x64
 (rF 56 x1 3 w fun x67=>
 rL 29 x67 w fun x68=>
 rN 29 3 x68 w fun x69=>
 rB .eql 3 T0 U0 x69 (iV 0) w fun x70=>
 BR x70
 (rF 56 x1 4 w fun x73=>
 rL 29 x73 w fun x74=>
 rN 29 3 x74 w fun x75=>
 rB .eql 3 T0 U0 x75 (iV 0) w fun x76=>
 R x76 w)
 (R (Value.bool false) w))
 (R (Value.bool false) w))
 (R (Value.bool false) w))
 (rB .eql 3 T0 U0 x4 (iV 6) w fun x56=>
 BR x56
 (rF 56 x1 1 w fun x58=>
 rL 9 x58 w fun x59=>
 cL 176 [x59] w fun x60 w=>
 BR x60
 (rF 56 x1 2 w fun x62=>
 rL 53 x62 w fun x63=>
 cL 190 [x63] w fun x64 w=>
 BR x64
 (rF 56 x1 3 w fun x67=>
 rL 29 x67 w fun x68=>
 rN 29 3 x68 w fun x69=>
 rB .eql 3 T0 U0 x69 (iV 0) w fun x70=>
 BR x70
 (rF 56 x1 4 w fun x73=>
 rL 29 x73 w fun x74=>
 rN 29 3 x74 w fun x75=>
 rB .eql 3 T0 U0 x75 (iV 0) w fun x76=>
 R x76 w)
 (R (Value.bool false) w))
 (R (Value.bool false) w))
 (R (Value.bool false) w))
 (rB .eql 3 T0 U0 x4 (iV 7) w fun x57=>
 BR x57
 (rF 56 x1 1 w fun x58=>
 rL 9 x58 w fun x59=>
 cL 176 [x59] w fun x60 w=>
 BR x60
 (rF 56 x1 2 w fun x62=>
 rL 53 x62 w fun x63=>
 cL 190 [x63] w fun x64 w=>
 BR x64
 (rF 56 x1 3 w fun x67=>
 rL 29 x67 w fun x68=>
 rN 29 3 x68 w fun x69=>
 rB .eql 3 T0 U0 x69 (iV 0) w fun x70=>
 BR x70
 (rF 56 x1 4 w fun x73=>
 rL 29 x73 w fun x74=>
 rN 29 3 x74 w fun x75=>
 rB .eql 3 T0 U0 x75 (iV 0) w fun x76=>
 R x76 w)
 (R (Value.bool false) w))
 (R (Value.bool false) w))
 (R (Value.bool false) w))
 (rB .eql 3 T0 U0 x4 (iV 8) w fun x79=>
 BR x79
 (rF 56 x1 1 w fun x80=>
 rL 9 x80 w fun x81=>
 rB .eql 9 T0 U0 x81 (Value.string (ByteArray.mk #[])) w fun x82=>
 BR x82
 (rF 56 x1 2 w fun x84=>
 rL 53 x84 w fun x85=>
 cL 190 [x85] w fun x86 w=>
 BR x86
 (rF 56 x1 3 w fun x89=>
 rL 29 x89 w fun x90=>
 rN 29 3 x90 w fun x91=>
 rB .eql 3 T0 U0 x91 (iV 0) w fun x92=>
 BR x92
 (rF 56 x1 4 w fun x95=>
 rL 29 x95 w fun x96=>
 rN 29 3 x96 w fun x97=>
 rB .eql 3 T0 U0 x97 (iV 0) w fun x98=>
 R x98 w)
 (R (Value.bool false) w))
 (R (Value.bool false) w))
 (R (Value.bool false) w))
 (R (Value.bool false) w))))))))
def cfg242:Cfg:=⟨extL,[],[],[],[],[],[]⟩
theorem F242_call {a0:Value} {w:World} {R:VW} (h:F242 a0 w R):cL 242 [a0] w R:=co (g:=cfg242) Tryz.func242 (by kernel_rfl) (by kernel_rfl) (by kernel_rfl) h
theorem zjx {w:World} {v0:Value} {W0:World} {t:DStmt}  (h0:Is W0 v0 t) (e0:Ext W0 w) (hr:zr4 t) :
   CALL Tryz.prog 242 [v0] w fun r w'=>Ext w w'∧(r=.bool true):=by
 refine F242_call ?_
 unfold F242
 have hbe:t.kind≠2→t.kind≠3→t.body=[]∧t.els=[]:=fun n2 n3=>by
   rcases hr with ⟨k1,k2,k3,k4,k5⟩ | ⟨k1,k2,k3,k4,k5⟩ | ⟨k1,k2,k3,k4,k5⟩ | ⟨k1,k2,k3⟩ | ⟨k1,k2,k3,k4⟩
   · exact ⟨k4,k5⟩
   · exact ⟨k4,k5⟩
   · exact ⟨k4,k5⟩
   · omega
   omega
 refine zbm zc7 rfl h0 e0 fun w1_ hx1_ hA1 hV1=>?_
 refine zaa ziJ ?_
 refine zac ty3 (zdh hA1) (Ext.refl w1_) fun hI4=>?_
 refine zai ?_
 refine br (fun c1=>?_) (fun c1=>?_)
 · refine zaa zc8 ?_
   refine zaA ty9 (zbg hA1) (Ext.refl w1_) fun hS8=>?_
   refine (za5 ).mono ?_
   rintro _ w2_ ⟨hx2_,rfl⟩
   refine zbQ (fun c2=>?_) (fun c2=>?_)
   · refine zaa zdR ?_
     refine zab zcn (zbA hA1) hx2_ fun v12 h12=>?_
     refine (zbx h12 hx2_).mono ?_
     rintro _ w3_ ⟨hx3_,rfl⟩
     refine zbQ (fun c3=>?_) (fun c3=>?_)
     · refine zaa zer ?_
       refine zab zfV (zb0 hA1) (hx2_.trans hx3_) fun v17 h17=>?_
       have hln18:=zan h17
       refine zaf u29 h17 ?_
       refine zai ?_
       refine br (fun c4=>?_) (fun c4=>?_)
       · refine zaa zdS ?_
         refine zab zfV (zbL hA1) (hx2_.trans hx3_) fun v23 h23=>?_
         have hln24:=zan h23
         refine zaf u29 h23 ?_
         refine zai ?_
         refine ⟨(hx1_.trans (hx2_.trans hx3_)),?_⟩
         rcases hr with ⟨k1,k2,k3,k4,k5⟩ | ⟨k1,k2,k3,k4,k5⟩ | ⟨k1,k2,k3,k4,k5⟩ | ⟨k1,k2,k3⟩ | ⟨k1,k2,k3,k4⟩<;>first | (exfalso;omega) | simp_all
       refine ⟨(hx1_.trans (hx2_.trans hx3_)),?_⟩
       rcases hr with ⟨k1,k2,k3,k4,k5⟩ | ⟨k1,k2,k3,k4,k5⟩ | ⟨k1,k2,k3,k4,k5⟩ | ⟨k1,k2,k3⟩ | ⟨k1,k2,k3,k4⟩<;>first | (exfalso;omega) | simp_all
     refine ⟨(hx1_.trans (hx2_.trans hx3_)),?_⟩
     rcases hr with ⟨k1,k2,k3,k4,k5⟩ | ⟨k1,k2,k3,k4,k5⟩ | ⟨k1,k2,k3,k4,k5⟩ | ⟨k1,k2,k3⟩ | ⟨k1,k2,k3,k4⟩<;>first | (exfalso;omega) | simp_all
   refine ⟨(hx1_.trans hx2_),?_⟩
   rcases hr with ⟨k1,k2,k3,k4,k5⟩ | ⟨k1,k2,k3,k4,k5⟩ | ⟨k1,k2,k3,k4,k5⟩ | ⟨k1,k2,k3⟩ | ⟨k1,k2,k3,k4⟩<;>first | (exfalso;omega) | simp_all
 refine zai ?_
 refine br (fun c5=>?_) (fun c5=>?_)
 · refine zaa zc8 ?_
   refine zaA ty9 (zbg hA1) (Ext.refl w1_) fun hS30=>?_
   refine zbi ?_
   refine br (fun c6=>?_) (fun c6=>?_)
   · refine zaa zdR ?_
     refine zab zcn (zbA hA1) (Ext.refl w1_) fun v34 h34=>?_
     refine (zbx h34 (Ext.refl w1_)).mono ?_
     rintro _ w4_ ⟨hx4_,rfl⟩
     refine ⟨(hx1_.trans hx4_),?_⟩
     rcases hr with ⟨k1,k2,k3,k4,k5⟩ | ⟨k1,k2,k3,k4,k5⟩ | ⟨k1,k2,k3,k4,k5⟩ | ⟨k1,k2,k3⟩ | ⟨k1,k2,k3,k4⟩<;>first | (exfalso;omega) | simp_all
   refine ⟨hx1_,?_⟩
   rcases hr with ⟨k1,k2,k3,k4,k5⟩ | ⟨k1,k2,k3,k4,k5⟩ | ⟨k1,k2,k3,k4,k5⟩ | ⟨k1,k2,k3⟩ | ⟨k1,k2,k3,k4⟩<;>first | (exfalso;omega) | simp_all
 refine zai ?_
 refine br (fun c7=>?_) (fun c7=>?_)
 · refine zaa zc8 ?_
   refine zaA ty9 (zbg hA1) (Ext.refl w1_) fun hS40=>?_
   refine zbi ?_
   refine br (fun c8=>?_) (fun c8=>?_)
   · refine zaa zdR ?_
     refine zab zcn (zbA hA1) (Ext.refl w1_) fun v44 h44=>?_
     refine (zbx h44 (Ext.refl w1_)).mono ?_
     rintro _ w5_ ⟨hx5_,rfl⟩
     refine zbQ (fun c9=>?_) (fun c9=>?_)
     · refine zaa zdS ?_
       refine zab zfV (zbL hA1) hx5_ fun v49 h49=>?_
       have hln50:=zan h49
       refine zaf u29 h49 ?_
       refine zai ?_
       refine ⟨(hx1_.trans hx5_),?_⟩
       rcases hr with ⟨k1,k2,k3,k4,k5⟩ | ⟨k1,k2,k3,k4,k5⟩ | ⟨k1,k2,k3,k4,k5⟩ | ⟨k1,k2,k3⟩ | ⟨k1,k2,k3,k4⟩<;>first | (exfalso;omega) | simp_all
     refine ⟨(hx1_.trans hx5_),?_⟩
     rcases hr with ⟨k1,k2,k3,k4,k5⟩ | ⟨k1,k2,k3,k4,k5⟩ | ⟨k1,k2,k3,k4,k5⟩ | ⟨k1,k2,k3⟩ | ⟨k1,k2,k3,k4⟩<;>first | (exfalso;omega) | simp_all
   refine ⟨hx1_,?_⟩
   rcases hr with ⟨k1,k2,k3,k4,k5⟩ | ⟨k1,k2,k3,k4,k5⟩ | ⟨k1,k2,k3,k4,k5⟩ | ⟨k1,k2,k3⟩ | ⟨k1,k2,k3,k4⟩<;>first | (exfalso;omega) | simp_all
 refine zai ?_
 refine br (fun c10=>?_) (fun c10=>?_)
 · refine zaa zc8 ?_
   refine zaA ty9 (zbg hA1) (Ext.refl w1_) fun hS59=>?_
   refine (za5 ).mono ?_
   rintro _ w6_ ⟨hx6_,rfl⟩
   refine zbQ (fun c11=>?_) (fun c11=>?_)
   · refine zaa zdR ?_
     refine zab zcn (zbA hA1) hx6_ fun v63 h63=>?_
     refine (zby h63 hx6_).mono ?_
     rintro _ w7_ ⟨hx7_,rfl⟩
     refine br (fun c12=>?_) (fun c12=>?_)
     · refine zaa zer ?_
       refine zab zfV (zb0 hA1) (hx6_.trans hx7_) fun v68 h68=>?_
       have hln69:=zan h68
       refine zaf u29 h68 ?_
       refine zai ?_
       refine br (fun c13=>?_) (fun c13=>?_)
       · refine zaa zdS ?_
         refine zab zfV (zbL hA1) (hx6_.trans hx7_) fun v74 h74=>?_
         have hln75:=zan h74
         refine zaf u29 h74 ?_
         refine zai ?_
         refine ⟨(hx1_.trans (hx6_.trans hx7_)),?_⟩
         rcases hr with ⟨k1,k2,k3,k4,k5⟩ | ⟨k1,k2,k3,k4,k5⟩ | ⟨k1,k2,k3,k4,k5⟩ | ⟨k1,k2,k3⟩ | ⟨k1,k2,k3,k4⟩<;>first | (exfalso;omega) | simp_all
       refine ⟨(hx1_.trans (hx6_.trans hx7_)),?_⟩
       rcases hr with ⟨k1,k2,k3,k4,k5⟩ | ⟨k1,k2,k3,k4,k5⟩ | ⟨k1,k2,k3,k4,k5⟩ | ⟨k1,k2,k3⟩ | ⟨k1,k2,k3,k4⟩<;>first | (exfalso;omega) | simp_all
     refine ⟨(hx1_.trans (hx6_.trans hx7_)),?_⟩
     rcases hr with ⟨k1,k2,k3,k4,k5⟩ | ⟨k1,k2,k3,k4,k5⟩ | ⟨k1,k2,k3,k4,k5⟩ | ⟨k1,k2,k3⟩ | ⟨k1,k2,k3,k4⟩<;>first | (exfalso;omega) | simp_all
   refine ⟨(hx1_.trans hx6_),?_⟩
   rcases hr with ⟨k1,k2,k3,k4,k5⟩ | ⟨k1,k2,k3,k4,k5⟩ | ⟨k1,k2,k3,k4,k5⟩ | ⟨k1,k2,k3⟩ | ⟨k1,k2,k3,k4⟩<;>first | (exfalso;omega) | simp_all
 refine zai ?_
 refine br (fun c14=>?_) (fun c14=>?_)
 · refine zaa zc8 ?_
   refine zaA ty9 (zbg hA1) (Ext.refl w1_) fun hS59=>?_
   refine (za5 ).mono ?_
   rintro _ w8_ ⟨hx8_,rfl⟩
   refine zbQ (fun c15=>?_) (fun c15=>?_)
   · refine zaa zdR ?_
     refine zab zcn (zbA hA1) hx8_ fun v63 h63=>?_
     refine (zby h63 hx8_).mono ?_
     rintro _ w9_ ⟨hx9_,rfl⟩
     refine br (fun c16=>?_) (fun c16=>?_)
     · refine zaa zer ?_
       refine zab zfV (zb0 hA1) (hx8_.trans hx9_) fun v68 h68=>?_
       have hln69:=zan h68
       refine zaf u29 h68 ?_
       refine zai ?_
       refine br (fun c17=>?_) (fun c17=>?_)
       · refine zaa zdS ?_
         refine zab zfV (zbL hA1) (hx8_.trans hx9_) fun v74 h74=>?_
         have hln75:=zan h74
         refine zaf u29 h74 ?_
         refine zai ?_
         refine ⟨(hx1_.trans (hx8_.trans hx9_)),?_⟩
         rcases hr with ⟨k1,k2,k3,k4,k5⟩ | ⟨k1,k2,k3,k4,k5⟩ | ⟨k1,k2,k3,k4,k5⟩ | ⟨k1,k2,k3⟩ | ⟨k1,k2,k3,k4⟩<;>first | (exfalso;omega) | simp_all
       refine ⟨(hx1_.trans (hx8_.trans hx9_)),?_⟩
       rcases hr with ⟨k1,k2,k3,k4,k5⟩ | ⟨k1,k2,k3,k4,k5⟩ | ⟨k1,k2,k3,k4,k5⟩ | ⟨k1,k2,k3⟩ | ⟨k1,k2,k3,k4⟩<;>first | (exfalso;omega) | simp_all
     refine ⟨(hx1_.trans (hx8_.trans hx9_)),?_⟩
     rcases hr with ⟨k1,k2,k3,k4,k5⟩ | ⟨k1,k2,k3,k4,k5⟩ | ⟨k1,k2,k3,k4,k5⟩ | ⟨k1,k2,k3⟩ | ⟨k1,k2,k3,k4⟩<;>first | (exfalso;omega) | simp_all
   refine ⟨(hx1_.trans hx8_),?_⟩
   rcases hr with ⟨k1,k2,k3,k4,k5⟩ | ⟨k1,k2,k3,k4,k5⟩ | ⟨k1,k2,k3,k4,k5⟩ | ⟨k1,k2,k3⟩ | ⟨k1,k2,k3,k4⟩<;>first | (exfalso;omega) | simp_all
 refine zai ?_
 refine br (fun c18=>?_) (fun c18=>?_)
 · refine zaa zc8 ?_
   refine zaA ty9 (zbg hA1) (Ext.refl w1_) fun hS59=>?_
   refine (za5 ).mono ?_
   rintro _ w10_ ⟨hx10_,rfl⟩
   refine zbQ (fun c19=>?_) (fun c19=>?_)
   · refine zaa zdR ?_
     refine zab zcn (zbA hA1) hx10_ fun v63 h63=>?_
     refine (zby h63 hx10_).mono ?_
     rintro _ w11_ ⟨hx11_,rfl⟩
     refine br (fun c20=>?_) (fun c20=>?_)
     · refine zaa zer ?_
       refine zab zfV (zb0 hA1) (hx10_.trans hx11_) fun v68 h68=>?_
       have hln69:=zan h68
       refine zaf u29 h68 ?_
       refine zai ?_
       refine br (fun c21=>?_) (fun c21=>?_)
       · refine zaa zdS ?_
         refine zab zfV (zbL hA1) (hx10_.trans hx11_) fun v74 h74=>?_
         have hln75:=zan h74
         refine zaf u29 h74 ?_
         refine zai ?_
         refine ⟨(hx1_.trans (hx10_.trans hx11_)),?_⟩
         rcases hr with ⟨k1,k2,k3,k4,k5⟩ | ⟨k1,k2,k3,k4,k5⟩ | ⟨k1,k2,k3,k4,k5⟩ | ⟨k1,k2,k3⟩ | ⟨k1,k2,k3,k4⟩<;>first | (exfalso;omega) | simp_all
       refine ⟨(hx1_.trans (hx10_.trans hx11_)),?_⟩
       rcases hr with ⟨k1,k2,k3,k4,k5⟩ | ⟨k1,k2,k3,k4,k5⟩ | ⟨k1,k2,k3,k4,k5⟩ | ⟨k1,k2,k3⟩ | ⟨k1,k2,k3,k4⟩<;>first | (exfalso;omega) | simp_all
     refine ⟨(hx1_.trans (hx10_.trans hx11_)),?_⟩
     rcases hr with ⟨k1,k2,k3,k4,k5⟩ | ⟨k1,k2,k3,k4,k5⟩ | ⟨k1,k2,k3,k4,k5⟩ | ⟨k1,k2,k3⟩ | ⟨k1,k2,k3,k4⟩<;>first | (exfalso;omega) | simp_all
   refine ⟨(hx1_.trans hx10_),?_⟩
   rcases hr with ⟨k1,k2,k3,k4,k5⟩ | ⟨k1,k2,k3,k4,k5⟩ | ⟨k1,k2,k3,k4,k5⟩ | ⟨k1,k2,k3⟩ | ⟨k1,k2,k3,k4⟩<;>first | (exfalso;omega) | simp_all
 refine zai ?_
 refine br (fun c22=>?_) (fun c22=>?_)
 · refine zaa zc8 ?_
   refine zaA ty9 (zbg hA1) (Ext.refl w1_) fun hS59=>?_
   refine (za5 ).mono ?_
   rintro _ w12_ ⟨hx12_,rfl⟩
   refine zbQ (fun c23=>?_) (fun c23=>?_)
   · refine zaa zdR ?_
     refine zab zcn (zbA hA1) hx12_ fun v63 h63=>?_
     refine (zby h63 hx12_).mono ?_
     rintro _ w13_ ⟨hx13_,rfl⟩
     refine br (fun c24=>?_) (fun c24=>?_)
     · refine zaa zer ?_
       refine zab zfV (zb0 hA1) (hx12_.trans hx13_) fun v68 h68=>?_
       have hln69:=zan h68
       refine zaf u29 h68 ?_
       refine zai ?_
       refine br (fun c25=>?_) (fun c25=>?_)
       · refine zaa zdS ?_
         refine zab zfV (zbL hA1) (hx12_.trans hx13_) fun v74 h74=>?_
         have hln75:=zan h74
         refine zaf u29 h74 ?_
         refine zai ?_
         refine ⟨(hx1_.trans (hx12_.trans hx13_)),?_⟩
         rcases hr with ⟨k1,k2,k3,k4,k5⟩ | ⟨k1,k2,k3,k4,k5⟩ | ⟨k1,k2,k3,k4,k5⟩ | ⟨k1,k2,k3⟩ | ⟨k1,k2,k3,k4⟩<;>first | (exfalso;omega) | simp_all
       refine ⟨(hx1_.trans (hx12_.trans hx13_)),?_⟩
       rcases hr with ⟨k1,k2,k3,k4,k5⟩ | ⟨k1,k2,k3,k4,k5⟩ | ⟨k1,k2,k3,k4,k5⟩ | ⟨k1,k2,k3⟩ | ⟨k1,k2,k3,k4⟩<;>first | (exfalso;omega) | simp_all
     refine ⟨(hx1_.trans (hx12_.trans hx13_)),?_⟩
     rcases hr with ⟨k1,k2,k3,k4,k5⟩ | ⟨k1,k2,k3,k4,k5⟩ | ⟨k1,k2,k3,k4,k5⟩ | ⟨k1,k2,k3⟩ | ⟨k1,k2,k3,k4⟩<;>first | (exfalso;omega) | simp_all
   refine ⟨(hx1_.trans hx12_),?_⟩
   rcases hr with ⟨k1,k2,k3,k4,k5⟩ | ⟨k1,k2,k3,k4,k5⟩ | ⟨k1,k2,k3,k4,k5⟩ | ⟨k1,k2,k3⟩ | ⟨k1,k2,k3,k4⟩<;>first | (exfalso;omega) | simp_all
 refine zai ?_
 refine br (fun c26=>?_) (fun c26=>?_)
 · refine zaa zc8 ?_
   refine zaA ty9 (zbg hA1) (Ext.refl w1_) fun hS81=>?_
   refine zbi ?_
   refine br (fun c27=>?_) (fun c27=>?_)
   · refine zaa zdR ?_
     refine zab zcn (zbA hA1) (Ext.refl w1_) fun v85 h85=>?_
     refine (zby h85 (Ext.refl w1_)).mono ?_
     rintro _ w14_ ⟨hx14_,rfl⟩
     refine br (fun c28=>?_) (fun c28=>?_)
     · refine zaa zer ?_
       refine zab zfV (zb0 hA1) hx14_ fun v90 h90=>?_
       have hln91:=zan h90
       refine zaf u29 h90 ?_
       refine zai ?_
       refine br (fun c29=>?_) (fun c29=>?_)
       · refine zaa zdS ?_
         refine zab zfV (zbL hA1) hx14_ fun v96 h96=>?_
         have hln97:=zan h96
         refine zaf u29 h96 ?_
         refine zai ?_
         refine ⟨(hx1_.trans hx14_),?_⟩
         rcases hr with ⟨k1,k2,k3,k4,k5⟩ | ⟨k1,k2,k3,k4,k5⟩ | ⟨k1,k2,k3,k4,k5⟩ | ⟨k1,k2,k3⟩ | ⟨k1,k2,k3,k4⟩<;>first | (exfalso;omega) | simp_all
       refine ⟨(hx1_.trans hx14_),?_⟩
       rcases hr with ⟨k1,k2,k3,k4,k5⟩ | ⟨k1,k2,k3,k4,k5⟩ | ⟨k1,k2,k3,k4,k5⟩ | ⟨k1,k2,k3⟩ | ⟨k1,k2,k3,k4⟩<;>first | (exfalso;omega) | simp_all
     refine ⟨(hx1_.trans hx14_),?_⟩
     rcases hr with ⟨k1,k2,k3,k4,k5⟩ | ⟨k1,k2,k3,k4,k5⟩ | ⟨k1,k2,k3,k4,k5⟩ | ⟨k1,k2,k3⟩ | ⟨k1,k2,k3,k4⟩<;>first | (exfalso;omega) | simp_all
   refine ⟨hx1_,?_⟩
   rcases hr with ⟨k1,k2,k3,k4,k5⟩ | ⟨k1,k2,k3,k4,k5⟩ | ⟨k1,k2,k3,k4,k5⟩ | ⟨k1,k2,k3⟩ | ⟨k1,k2,k3,k4⟩<;>first | (exfalso;omega) | simp_all
 refine ⟨hx1_,?_⟩
 rcases hr with ⟨k1,k2,k3,k4,k5⟩ | ⟨k1,k2,k3,k4,k5⟩ | ⟨k1,k2,k3,k4,k5⟩ | ⟨k1,k2,k3⟩ | ⟨k1,k2,k3,k4⟩<;>first | (exfalso;omega) | simp_all
theorem zqP {l:List DStmt} {k:Nat} (hk:k<l.length):szL (l.drop k)=szS l[k]+szL (l.drop (k+1)):=by rw [List.drop_eq_getElem_cons hk,szL]
theorem zn2 (l:List DStmt) (k:Nat):szL (l.drop k)≤szL l:=by
 have:=zfF (l.take k) (l.drop k)
 rw [List.take_append_drop] at this;omega
def zr6 (c:Scp) (n:Nat) (l:List DStmt):Prop:=∀ {w W:World} {v:Value} {d:Int} {g r:Nat},Is W v l→Ext W w→(∀ x∈l,StR c n x)→(n:Int)≤d→d≤6→Blk g 3 w [.int .i64 (r:Int)]→W.heap.size≤g→szL l≤r→r≤1000 →
 CALL Tryz.prog 177 [v,.int .i64 d,.pointer (some ⟨g,0,none⟩)] w fun res w'=>ChgI g (g+1) w w'∧res=.bool true∧Blk g 3 w' [.int .i64 ((r-szL l:Nat):Int)]
theorem zfi {c:Scp} {n:Nat} {l:List DStmt} (hp:zr5 c) (ih:∀ m l,m+1=n→zr6 c m l):zr6 c n l:=by
 intro w W v d g r h e hs hd0 hd1 hB hg hsz hr
 have hln:=zan h
 have hgl:=hB.lt
 refine F177_call ?_
 unfold F177
 refine zaf u29 h ?_
 refine zaE l.length (fun k us w'=>us=[.int .i64 (k:Int)]∧ChgI g (g+1) w w'∧k≤l.length∧∃ q,q+szL l=r+szL (l.drop k)∧Blk g 3 w' [.int .i64 (q:Int)]) 0 (Nat.zero_le _) ⟨rfl,ChgI.refl _,Nat.zero_le _,r,rfl,hB⟩ ?_
 rintro k m u w1 hkm ⟨hu,hc1,hkl,q,hq,hB1⟩
 simp only [List.map_cons,List.map_nil,List.cons.injEq,and_true] at hu
 rw [hu]
 have hx1:Ext W w1:=e.chgI hc1 hg
 have hs1:=hc1.size
 refine zal ?_
 refine br (fun hlt=>?_) (fun hge=>?_)
 rotate_left
 · have hk:k=l.length:=by omega
   subst hk
   rw [List.drop_length,szL] at hq
   refine ⟨hc1,rfl,?_⟩
   rw [show r-szL l=q by omega];exact hB1
 have hk:k<l.length:=by omega
 have hdl:=zn2 l k
 rw [zqP hk] at hq hdl
 obtain ⟨x,hx⟩:∃ x,x=l[k]:=⟨_,rfl⟩
 have hxs:StR c n x:=by rw [hx];exact hs _ (List.getElem_mem hk)
 rw [←hx] at hq hdl
 have hsx:=zkv x
 refine zad u29 zc7 h hk fun b13 o13 hA13=>?_
 rw [←hx] at hA13
 refine zab zc7 hA13 hx1 fun v14 h14=>?_
 refine zbB zoj rfl zc7 rfl h14 hx1 fun w2 hx2 hA8 hV8=>?_
 have hs2:=hx2.size
 have hB2:=hB1.ext hx2
 have hg1:=hB1.lt
 have hb8:=zeA h14 hV8 rfl
 have hg8:=hV8.lt
 refine NIL.mk rfl ?_
 refine zas ty3 hB2 rfl ?_
 refine zck (by unfold I64;omega) ?_
 refine NIL.mk rfl ?_
 rw [show (q:Int)-1=((q-1:Nat):Int) by omega]
 refine zcp (α:=Int) (x:=((q-1:Nat):Int)) (lo:=0) (hi:=0) ty3 rfl rfl hB2 (by simp) (Go.Sh.ownI_int (by unfold I64;omega)) fun w3 hc3 hB3=>?_
 have hs3:=hc3.size
 have hB3:Blk g 3 w3 [.int .i64 ((q-1:Nat):Int)]:=hB3
 have hc13:ChgI g (g+1) w w3:=(hc1.trans hx2.toI).trans hc3
 have hx3:Ext W w3:=e.chgI hc13 hg
 have hb83:=hb8.keep (hc3.block _ (by omega) (by omega))
 have hA83:=hb83.at hx3
 refine NIL.mk rfl ?_
 refine zas ty3 hB3 rfl ?_
 refine zal ?_
 refine br (fun hh=>absurd hh (by omega)) (fun _=>?_)
 refine zab zc7 hA83 (Ext.refl _) fun v25 h25=>?_
 refine (zjx h25 (Ext.refl _) (hxs.one hp)).mono ?_
 rintro _ w4 ⟨hx4,rfl⟩
 have hs4:=hx4.size
 have hA84:=hb83.ext hx4 |>.at (hx3.trans hx4)
 have hB4:=hB3.ext hx4
 refine zaO ?_
 refine zbQ (fun hc=>by simp at hc) (fun _=>?_)
 have hkid0:¬(x.kind=2∨x.kind=3)→szS x=1:=fun hn=>by
   have h0:St0 c x→szS x=1:=fun hq=>by
     have:x.body=[]∧x.els=[]:=by rcases hq with q | q | q | q<;>exact ⟨q.2.2.2.1,q.2.2.2.2⟩
     rw [zkv,this.1,this.2];simp [szL]
   cases n with
   | zero=>exact h0 hxs.zero
   | succ n=>
     rcases hxs.succ with q | ⟨h1,_⟩
     · exact h0 q
     exact absurd (h1.imp id fun e=>e.1) hn
 have hnext:∀ {w5:World} {q5:Nat},ChgI g (g+1) w w5→q5+szL l=r+szL (l.drop (k+1))→Blk g 3 w5 [.int .i64 (q5:Int)] →
     ∃ m',m'<m∧∃ k',k'+m'=l.length∧([Value.int .i64 ((k+1:Nat):Int)]=[.int .i64 (k':Int)]∧ChgI g (g+1) w w5∧k'≤l.length∧∃ q,q+szL l=r+szL (l.drop k')∧Blk g 3 w5 [.int .i64 (q:Int)]):=
   fun {w5 q5} a1 a2 a3=>⟨m-1,by omega,k+1,by omega,rfl,a1,by omega,q5,a2,a3⟩
 refine JOIN.mk (fun us w'=>(x.kind=2∨x.kind=3)∧w'=w4) ?_ ?_
 · refine zaa ziJ ?_
   refine zac ty3 (zdh hA84) (Ext.refl _) fun hI=>?_
   refine zaT ?_
   refine br (fun h2=>?_) (fun h2=>⟨.inl (Decidable.not_not.1 h2),rfl⟩)
   refine zaa ziJ ?_
   refine zac ty3 (zdh hA84) (Ext.refl _) fun hI=>?_
   refine zaT ?_
   refine br (fun h3=>?_) (fun h3=>⟨.inr (Decidable.not_not.1 h3),rfl⟩)
   have:=hkid0 (by omega)
   refine zag (by omega) ?_
   exact hnext (hc13.trans hx4.toI) (q5:=q-1) (by omega) hB4
 rintro u8 w5 ⟨h23,rfl⟩
 have hn0:0<n:=by
   rcases Nat.eq_zero_or_pos n with h0 | h0
   · subst h0
     rcases hxs.zero with q | q | q | q<;>(have:=q.1;omega)
   exact h0
 have hkid:(∀ y∈x.body,StR c (n-1) y)∧∀ y∈x.els,StR c (n-1) y:=by
   obtain ⟨q,rfl⟩:∃ q,n=q+1:=⟨n-1,by omega⟩
   rcases hxs.succ with h | ⟨_,_,_,h4,h5⟩
   · exfalso
     rcases h with q | q | q | q<;>(have:=q.1;omega)
   exact ⟨h4,h5⟩
 refine zai ?_
 refine br (fun hc=>by omega) (fun _=>?_)
 refine zaa zer ?_
 have hx5:Ext W w5:=hx3.trans hx4
 have hb85:=hb83.ext hx4
 refine zb9 zfV (zqN hb85) hx5 (Ext.refl _) fun v41 h41=>?_
 refine zck (by unfold I64;omega) ?_
 refine (ih (n-1) _ (by omega) h41 hx5 hkid.1 (by omega) (by omega) hB4 hg (by omega) (by omega)).mono ?_
 rintro _ w6 ⟨hc6,rfl,hB6⟩
 have hs6:=hc6.size
 have hx6:Ext W w6:=hx5.chgI hc6 hg
 have hb86:=hb85.keep (hc6.block _ (by omega) (by omega))
 have hA86:=hb86.at hx6
 refine zaO ?_
 refine zbQ (fun hc=>by simp at hc) (fun _=>?_)
 refine zaa zdS ?_
 refine zb9 zfV (zqO hb86) hx6 (Ext.refl _) fun v50 h50=>?_
 refine zck (by unfold I64;omega) ?_
 refine (ih (n-1) _ (by omega) h50 hx6 hkid.2 (by omega) (by omega) hB6 hg (by omega) (by omega)).mono ?_
 rintro _ w7 ⟨hc7,rfl,hB7⟩
 refine zaO ?_
 refine zbQ (fun hc=>by simp at hc) (fun _=>?_)
 refine zag (by omega) ?_
 refine hnext (((hc13.trans hx4.toI).trans hc6).trans hc7) ?_ hB7
 omega
end Go.Proofs.YtcnglfeoglgebaaGreat
namespace Go.Sh
open Rep (rep)
structure DEc where
 a:Raw
 b:Raw
 c:Raw
 d:Raw
 ins:RIns
theorem DEc.ext_iff {x y:DEc}:x=y↔(x.a=y.a∧x.b=y.b∧x.c=y.c∧x.d=y.d∧x.ins=y.ins):=⟨fun h=>by rw [h];exact ⟨rfl,rfl,rfl,rfl,rfl⟩,fun h=>by obtain ⟨h0,h1,h2,h3,h4⟩:=h;cases x;cases y;simp only at h0 h1 h2 h3 h4;simp only [h0,h1,h2,h3,h4]⟩
instance:Rep DEc:=Rep.via fun x=>(x.a,x.b,x.c,x.d,x.ins)
instance:RepZ DEc:=⟨⟨(RepZ.zv:Raw),(RepZ.zv:Raw),(RepZ.zv:Raw),(RepZ.zv:Raw),(RepZ.zv:RIns)⟩,RepZ.zc (Raw×Raw×Raw×Raw×RIns),fun w=>RepZ.zr (α:=Raw×Raw×Raw×Raw×RIns) w⟩
theorem zmj {γ:Type} {H:List Nat→World→γ→Prop} {F:List Nat} {w:World} {b o:Nat} {G:List Nat} {x:DEc} {upd:DEc→γ} (h:Lens H F w b o G x upd) :
   ∃ G1,Lens H F w b (o+0) G1 x.a (fun y=>upd ⟨y,x.b,x.c,x.d,x.ins⟩):=by
 have h':Lens H F w b o G (x.a,x.b,x.c,x.d,x.ins) (fun p:Raw×Raw×Raw×Raw×RIns=>upd ⟨p.1,p.2.1,p.2.2.1,p.2.2.2.1,p.2.2.2.2⟩):=⟨h.here,h.sub,fun w' G' y' hc hO hs=>h.back w' G' _ hc hO hs⟩
 obtain ⟨G0,h'⟩:=h'.fst
 exact ⟨_,h'⟩
theorem zmk {γ:Type} {H:List Nat→World→γ→Prop} {F:List Nat} {w:World} {b o:Nat} {G:List Nat} {x:DEc} {upd:DEc→γ} (h:Lens H F w b o G x upd) :
   ∃ G1,Lens H F w b (o+1) G1 x.b (fun y=>upd ⟨x.a,y,x.c,x.d,x.ins⟩):=by
 have h':Lens H F w b o G (x.a,x.b,x.c,x.d,x.ins) (fun p:Raw×Raw×Raw×Raw×RIns=>upd ⟨p.1,p.2.1,p.2.2.1,p.2.2.2.1,p.2.2.2.2⟩):=⟨h.here,h.sub,fun w' G' y' hc hO hs=>h.back w' G' _ hc hO hs⟩
 obtain ⟨G0,h'⟩:=h'.snd
 obtain ⟨G1,h'⟩:=h'.fst
 exact ⟨_,h'⟩
theorem zml {γ:Type} {H:List Nat→World→γ→Prop} {F:List Nat} {w:World} {b o:Nat} {G:List Nat} {x:DEc} {upd:DEc→γ} (h:Lens H F w b o G x upd) :
   ∃ G1,Lens H F w b (o+2) G1 x.c (fun y=>upd ⟨x.a,x.b,y,x.d,x.ins⟩):=by
 have h':Lens H F w b o G (x.a,x.b,x.c,x.d,x.ins) (fun p:Raw×Raw×Raw×Raw×RIns=>upd ⟨p.1,p.2.1,p.2.2.1,p.2.2.2.1,p.2.2.2.2⟩):=⟨h.here,h.sub,fun w' G' y' hc hO hs=>h.back w' G' _ hc hO hs⟩
 obtain ⟨G0,h'⟩:=h'.snd
 obtain ⟨G1,h'⟩:=h'.snd
 obtain ⟨G2,h'⟩:=h'.fst
 exact ⟨_,h'⟩
theorem zhF {γ:Type} {H:List Nat→World→γ→Prop} {F:List Nat} {w:World} {b o:Nat} {G:List Nat} {x:DEc} {upd:DEc→γ} (h:Lens H F w b o G x upd) :
   ∃ G1,Lens H F w b (o+3) G1 x.d (fun y=>upd ⟨x.a,x.b,x.c,y,x.ins⟩):=by
 have h':Lens H F w b o G (x.a,x.b,x.c,x.d,x.ins) (fun p:Raw×Raw×Raw×Raw×RIns=>upd ⟨p.1,p.2.1,p.2.2.1,p.2.2.2.1,p.2.2.2.2⟩):=⟨h.here,h.sub,fun w' G' y' hc hO hs=>h.back w' G' _ hc hO hs⟩
 obtain ⟨G0,h'⟩:=h'.snd
 obtain ⟨G1,h'⟩:=h'.snd
 obtain ⟨G2,h'⟩:=h'.snd
 obtain ⟨G3,h'⟩:=h'.fst
 exact ⟨_,h'⟩
theorem zdk {γ:Type} {H:List Nat→World→γ→Prop} {F:List Nat} {w:World} {b o:Nat} {G:List Nat} {x:DEc} {upd:DEc→γ} (h:Lens H F w b o G x upd) :
   ∃ G1,Lens H F w b (o+4) G1 x.ins (fun y=>upd ⟨x.a,x.b,x.c,x.d,y⟩):=by
 have h':Lens H F w b o G (x.a,x.b,x.c,x.d,x.ins) (fun p:Raw×Raw×Raw×Raw×RIns=>upd ⟨p.1,p.2.1,p.2.2.1,p.2.2.2.1,p.2.2.2.2⟩):=⟨h.here,h.sub,fun w' G' y' hc hO hs=>h.back w' G' _ hc hO hs⟩
 obtain ⟨G0,h'⟩:=h'.snd
 obtain ⟨G1,h'⟩:=h'.snd
 obtain ⟨G2,h'⟩:=h'.snd
 obtain ⟨G3,h'⟩:=h'.snd
 exact ⟨_,h'⟩
theorem zqQ {w:World} {F:List Nat} {cs:List Value} {x:DEc} (h:rep F w cs x):∃ F0 c0 F1 c1 F2 c2 F3 c3 F4 c4,F=(F0++(F1++(F2++(F3++F4))))∧cs=(c0++(c1++(c2++(c3++c4))))∧rep F0 w c0 x.a∧rep F1 w c1 x.b∧rep F2 w c2 x.c∧rep F3 w c3 x.d∧rep F4 w c4 x.ins:=by
 obtain ⟨F0,G0,c0,d0,rfl,rfl,h0,h⟩:=h
 obtain ⟨F1,G1,c1,d1,rfl,rfl,h1,h⟩:=h
 obtain ⟨F2,G2,c2,d2,rfl,rfl,h2,h⟩:=h
 obtain ⟨F3,G3,c3,d3,rfl,rfl,h3,h⟩:=h
 exact ⟨_,_,_,_,_,_,_,_,_,_,rfl,rfl,h0,h1,h2,h3,h⟩
end Go.Sh
namespace Go.Proofs.YtcnglfeoglgebaaGreat
open Go Go.Sh Go.Proofs
open Rep (rep)
def F101 (a0:Value) (w:World) (R:VW):Prop:=
 oP (Instr.box 53 a0) w fun x1 w=>
 oP (Instr.alloc 53 true (.tuple #[])) w fun x2 w=>
 rF 53 x1 3 w fun x6=>
 rL 51 x6 w fun x7=>
 rN 51 3 x7 w fun x8=>
 LOOPI [3,9] [(Value.slice none 0 0),(iV 0)] w fun u3 w next3=>
 rC (u3 9) x8 w fun x10=>
 BR x10
 (rX 51 x7 (u3 9) w fun x11=>
 rL 53 x11 w fun x12=>
 oP (Instr.alloc 53 true (.tuple #[])) w fun x5 w=>
 oS 53 x5 x12 w fun w=>
 rL 53 x5 w fun x14=>
 cL 101 [x14] w fun x15 w=>
 oP (Instr.buildSlice 51 1 #[(0,x15)]) w fun x16 w=>
 oP (Builtin.append_ #[51,51] 51 [(u3 3),x16].toArray) w fun x17 w=>
 rA (u3 9) (iV 1) w fun x18=>
 next3 [x17,x18] w)
 (rF 53 x1 0 w fun x19=>
 rL 3 x19 w fun x20=>
 rF 53 x1 1 w fun x21=>
 rL 3 x21 w fun x22=>
 rF 53 x1 2 w fun x23=>
 rL 9 x23 w fun x24=>
 rD (Instr.build 53 #[(0,x20),(1,x22),(2,x24),(3,(u3 3))]) w fun x26=>
 oS 53 x2 x26 w fun w=>
 rD (zbG 53 x2) w fun r2=>R r2 w)
def cfg101:Cfg:=⟨extL,[],[(3,523816,[3,9])],[],[],[],[]⟩
theorem F101_call {a0:Value} {w:World} {R:VW} (h:F101 a0 w R):cL 101 [a0] w R:=co (g:=cfg101) Tryz.func101 (by kernel_rfl) (by kernel_rfl) (by kernel_rfl) h
open Rep (rep)
def zn3 (t:DTerm):Prop:=∀ {w W:World} {v:Value},Is W v t→Ext W w→wT t≤1048576 →
 CALL Tryz.prog 101 [v] w fun r w'=>Ext w w'∧Own w.heap.size w' r t
theorem ziw {t:DTerm} (ih:∀ x∈t.kids,zn3 x):zn3 t:=by
 intro w W v h e hw
 have hkl:t.kids.length≤1048576:=by have:=zqi t;have:=zmX t.kids;omega
 have hkw:∀ x∈t.kids,wT x≤1048576:=fun x hx=>by have:=zqi t;have:=zmX t.kids;have:=zrk wT hx;omega
 refine F101_call ?_
 unfold F101
 refine zdE h e fun w1 hx1 hA=>?_
 have hs1:=hx1.size
 refine zcm zqb fun w2 hx2 hB2=>?_
 have hg2:=hB2.lt
 have hs2:=hx2.size
 refine zaa zc6 ?_
 refine zab zlL (za4 hA) hx2 fun v7 h7=>?_
 refine zaf u51 h7 ?_
 refine zaE t.kids.length (fun k us w'=>∃ v3 hi,us=[v3,.int .i64 (k:Int)]∧k≤t.kids.length∧hi≤w'.heap.size∧w2.heap.size≤hi∧Ext w2 w'∧RowI w2.heap.size hi 53 w' v3 (t.kids.take k)) 0 (Nat.zero_le _)
     ⟨.slice none 0 0,w2.heap.size,rfl,Nat.zero_le _,Nat.le_refl _,Nat.le_refl _,Ext.refl _,zb2 _ _ _ _⟩ ?_
 rintro k m u w5 hkm ⟨v3,hi,hu,hkl5,hhi,hlo,hx5,r5⟩
 obtain ⟨hu0,hu1⟩:=zey hu
 rw [hu0,hu1]
 have hs5:=hx5.size
 refine zal ?_
 refine br (fun hlt=>?_) (fun hge=>?_)
 · have hk:k<t.kids.length:=by omega
   refine zad u51 zcn h7 hk fun b11 o11 hA11=>?_
   refine zab zcn hA11 (hx2.trans hx5) fun v12 h12=>?_
   refine zbB zqb rfl zcn rfl h12 (hx2.trans hx5) fun w6 hx6 hA6 hV6=>?_
   have hs6:=hx6.size
   refine zab zcn hA6 (Ext.refl _) fun v14 h14=>?_
   refine (ih _ (List.getElem_mem hk) h14 (Ext.refl _) (hkw _ (List.getElem_mem hk))).mono ?_
   rintro r15 w7 ⟨hx7,o15⟩
   have o15:=o15.toI
   have hs7:=hx7.size
   refine zdt (α:=DTerm) u51 zcn z53 zsr (by decide) (r5.ext (hx6.trans hx7)) (by omega) o15 (by omega) (by omega) (by rw [zak,List.length_take];omega) (by rw [List.length_take];omega) fun v17 w8 hc8 r8=>?_
   have hs8:=hc8.size
   refine zag (by omega) ?_
   refine ⟨m-1,by omega,k+1,by omega,v17,w8.heap.size,rfl,by omega,Nat.le_refl _,by omega,Ext.chgI (hx5.trans (hx6.trans hx7)) hc8 (by omega),?_⟩
   rwa [←List.take_succ_eq_append_getElem hk] at r8
 have hk:t.kids.length≤k:=by omega
 refine zaa zkR ?_
 refine zac ty3 (zd8 hA) (hx2.trans hx5) fun hI6=>?_
 refine zaa zhj ?_
 refine zac ty3 (zcu hA) (hx2.trans hx5) fun hI8=>?_
 refine zaa zhk ?_
 refine zaA ty9 (zcv hA) (hx2.trans hx5) fun hS10=>?_
 have r5:=r5.own
 rw [List.take_of_length_le hk] at r5
 have ost:OwnI w2.heap.size hi w5 (.agg #[.int .i64 t.kind,.int .i64 t.num,.string t.name,v3]) t:=by
   have:=zdZ hI6 hI8 hS10 r5
   rwa [DTerm.eta] at this
 obtain ⟨a,n,cap,q1⟩:=ze1 r5
 subst q1
 refine zaz (cells:=#[.int .i64 t.kind,.int .i64 t.num,.string t.name,.slice a n cap]) (by kernel_rfl) ?_
 refine ze0 zcn rfl (hB2.ext hx5) rfl ost fun w6 hc6 hB6=>?_
 refine zm4 hB6 zcn ?_
 exact ⟨Ext.chgI (hx1.trans (hx2.trans hx5)) hc6 (by omega),(ost.chg hc6 (by omega)).own.mono (by omega)⟩
theorem zgZ (t:DTerm):zn3 t:=DTerm.ind (fun t ih {_ _ _}=>ziw ih) t
def F100 (a0 a1:Value) (w:World) (R:VW):Prop:=
 cL 121 [a0,a1] w fun x7 w=>
 R x7 w
def cfg100:Cfg:=⟨extL,[],[],[],[],[],[]⟩
theorem F100_call {a0 a1:Value} {w:World} {R:VW} (h:F100 a0 a1 w R):cL 100 [a0,a1] w R:=co (g:=cfg100) Tryz.func100 (by kernel_rfl) (by kernel_rfl) (by kernel_rfl) h
theorem zeu {w:World} {v0:Value} {W0:World} {l:(List ByteArray)} {s:ByteArray}  (h0:Is W0 v0 l) (e0:Ext W0 w)  :
   CALL Tryz.prog 100 [v0,.string s] w fun r w'=>Ext w w'∧(r=.int .i64 (plc s l)):=by
 refine F100_call ?_
 unfold F100
 refine (zeB h0 e0).mono ?_
 rintro _ w1_ ⟨hx1_,rfl⟩
 refine ⟨hx1_,?_⟩
 rfl
structure NmK (g bs:Nat) (c0 c1 c2:Value) (G L P:List ByteArray) (w:World):Prop where
 m0:∃ F,Mine F w c0 G∧∀ b∈F,b<bs∧b≠g
 m1:∃ F,Mine F w c1 L∧∀ b∈F,b<bs∧b≠g
 m2:∃ F,Mine F w c2 P∧∀ b∈F,b<bs∧b≠g
structure CoF (W:World) (g bs:Nat) (c0 c1 c2 ve:Value) (G L P:List ByteArray) (I:List DIns) (F:List Nat) (w:World):Prop where
 oat:∃ rv,OAt F w g 0 (⟨⟨c0⟩,⟨c1⟩,⟨c2⟩,⟨ve⟩,⟨rv,I⟩⟩:DEc)
 nm:NmK g bs c0 c1 c2 G L P w
 old:Ext W w
 gW:W.heap.size≤g
 gb:g<bs
 Wb:bs≤w.heap.size
 Fb:∀ c∈F,bs≤c
section
variable {W w w':World} {g bs:Nat} {c0 c1 c2 ve:Value} {G L P:List ByteArray} {I:List DIns} {F F':List Nat}
theorem NmK.keep (h:NmK g bs c0 c1 c2 G L P w) (hk:∀ b,b<bs→b≠g→b<w.heap.size→w'.heap[b]?=w.heap[b]?):NmK g bs c0 c1 c2 G L P w':=by
 obtain ⟨⟨F0,a0,b0⟩,⟨F1,a1,b1⟩,⟨F2,a2,b2⟩⟩:=h
 exact ⟨⟨F0,a0.keep fun b hb=>hk b (b0 b hb).1 (b0 b hb).2 (a0.lt b hb),b0⟩,⟨F1,a1.keep fun b hb=>hk b (b1 b hb).1 (b1 b hb).2 (a1.lt b hb),b1⟩,⟨F2,a2.keep fun b hb=>hk b (b2 b hb).1 (b2 b hb).2 (a2.lt b hb),b2⟩⟩
theorem CoF.lt (h:CoF W g bs c0 c1 c2 ve G L P I F w):g<w.heap.size∧(∀ c∈F,c<w.heap.size)∧g∉F∧∀ c∈F,W.heap.size≤c:=by
 obtain ⟨rv,h2⟩:=h.oat
 have:=h2.lts
 have h6:=h.gb
 have h7:=h.gW
 exact ⟨this g (by simp),fun c hc=>this c (by simp [hc]),fun hm=>by have:=h.Fb g hm;omega,fun c hc=>by have:=h.Fb c hc;omega⟩
theorem CoF.ext (h:CoF W g bs c0 c1 c2 ve G L P I F w) (hx:Ext w w'):CoF W g bs c0 c1 c2 ve G L P I F w':=by
 obtain ⟨rv,h2⟩:=h.oat
 exact ⟨⟨rv,h2.ext hx⟩,h.nm.keep fun b _ _ hb=>hx.heap hb,h.old.trans hx,h.gW,h.gb,Nat.le_trans h.Wb hx.size,h.Fb⟩
theorem CoF.turn {I':List DIns} {rv:Value} (h:CoF W g bs c0 c1 c2 ve G L P I F w) (hc:Chg (g :: F) w w') (hO:OAt F' w' g 0 (⟨⟨c0⟩,⟨c1⟩,⟨c2⟩,⟨ve⟩,⟨rv,I'⟩⟩:DEc)) (hF:∀ c∈F',c∈F∨w.heap.size≤c):CoF W g bs c0 c1 c2 ve G L P I' F' w':=by
 have hb:=h.Wb
 have h1:=h.gW
 have h2:=h.gb
 refine ⟨⟨rv,hO⟩,h.nm.keep fun b hb1 hb2 hb3=>hc.block b hb3 fun hm=>?_,h.old.chgL hc fun c hcm=>?_,h1,h2,Nat.le_trans hb hc.size,fun c hcm=>(hF c hcm).elim (h.Fb c) fun h=>by omega⟩
 · rcases List.mem_cons.1 hm with e | hm
   · exact hb2 e
   have:=h.Fb b hm;omega
 rcases List.mem_cons.1 hcm with rfl | hcm
 · exact h1
 have:=h.Fb c hcm;omega
theorem zn4 {j:Nat} {cj:Value} {l:List ByteArray} (h:CoF W g bs c0 c1 c2 ve G L P I F w) (hj:(j=0∧cj=c0∧l=G)∨(j=1∧cj=c1∧l=L)∨(j=2∧cj=c2∧l=P)) :
   w.rangeAt g (0+j) [cj]∧Is w cj l:=by
 obtain ⟨rv,hO⟩:=h.oat
 obtain ⟨⟨F0,a0,b0⟩,⟨F1,a1,b1⟩,⟨F2,a2,b2⟩⟩:=h.nm
 rcases hj with ⟨rfl,rfl,rfl⟩ | ⟨rfl,rfl,rfl⟩ | ⟨rfl,rfl,rfl⟩
 · obtain ⟨G1,hL⟩:=zmj (Lens.var hO)
   obtain ⟨cs,⟨_,rfl,_⟩,hr,_⟩:=hL.here
   exact ⟨hr,a0.is⟩
 · obtain ⟨G1,hL⟩:=zmk (Lens.var hO)
   obtain ⟨cs,⟨_,rfl,_⟩,hr,_⟩:=hL.here
   exact ⟨hr,a1.is⟩
 obtain ⟨G1,hL⟩:=zml (Lens.var hO)
 obtain ⟨cs,⟨_,rfl,_⟩,hr,_⟩:=hL.here
 exact ⟨hr,a2.is⟩
theorem zfj (h:CoF W g bs c0 c1 c2 ve G L P I F w):∃ rv,w.rangeAt g (0+4) [rv]∧Is w rv I∧OAt F w g 0 (⟨⟨c0⟩,⟨c1⟩,⟨c2⟩,⟨ve⟩,⟨rv,I⟩⟩:DEc):=by
 obtain ⟨rv,hO⟩:=h.oat
 obtain ⟨G1,hL⟩:=zdk (Lens.var hO)
 obtain ⟨cs1,⟨rfl,hrow⟩,hr1,_⟩:=hL.here
 exact ⟨rv,hr1,hrow.own.is,hO⟩
theorem zkw {w2 w3:World} {rv u:Value} {x:DIns} {lo hi:Nat} {K:World→Prop} (h:CoF W g bs c0 c1 c2 ve G L P I F w2) (hO:OAt F w2 g 0 (⟨⟨c0⟩,⟨c1⟩,⟨c2⟩,⟨ve⟩,⟨rv,I⟩⟩:DEc)) (hx:Ext w2 w3) (o:OwnI lo hi w3 u x) (hlo:w2.heap.size≤lo) (hlo2:lo≤w3.heap.size)
   (hI:I.length≤1000000) (k:∀ w4 F4,Chg (g :: F) w2 w4→CoF W g bs c0 c1 c2 ve G L P (I++[x]) F4 w4→(∀ c∈F4,c∈F∨w2.heap.size≤c)→K w4) :
   OP Tryz.prog (Instr.buildSlice 34 1 #[(0,u)]) w3 fun x49 w=>ExtX (fun c=>c∈F) w3 w∧OP Tryz.prog (Builtin.append_ #[34,34] 34 [rv,x49].toArray) w fun x50 w'=>
     ExtX (fun c=>c∈F) w w'∧NIL (.pointer (some ⟨g,0,none⟩)) (RDX Tryz.prog (fun c=>c∈F) (Instr.fieldAt 36 (.pointer (some ⟨g,0,none⟩)) 4) w' fun x52=>OPU Tryz.prog (Instr.storeAt 34 x52 x50) w' fun w=>K w):=by
 obtain ⟨e1,e2,e3,e5⟩:=h.lt
 have hs3:=hx.size
 obtain ⟨GX,hMX,hGX⟩:=o
 have hO3:=hO.ext hx
 obtain ⟨G1,hL1⟩:=zdk (Lens.var hO3)
 obtain ⟨cs1,⟨rfl,hrow⟩,hr1,hnG,_,hg1,_⟩:=hL1.here
 have hGF:∀ c∈G1,c∈F:=fun c hc=>by
   rcases List.mem_cons.1 (hL1.sub c (by simp [hc])) with e | h
   · exact absurd (e▸hc) hg1
   exact h
 have hlts:=hO3.lts
 refine ze2 (β:=DIns) (G:=G1) u34 zem z84 zse (by decide) hrow hnG hMX (fun c hc hc'=>by have:=hGX c hc;have:=e2 c (hGF c hc');omega) (by rw [zak];show I.length+1≤_;omega) (by show (I.length+1)*_≤_;omega) (fun w4 v12 w5 G' hx4 hc5 hR5 hN5 hs5=>?_) fun s' w4 hx4 h=>⟨hx4.toX,h⟩
 have hs4:=hx4.size
 refine ⟨hc5.toX (fun c hc=>hGF c hc),?_⟩
 refine NIL.mk rfl ?_
 refine zc0 zaK ?_
 have hc35:Chg G1 w3 w5:=(hx4.chg G1).trans hc5
 refine zgX zdG hL1 hlts hc35 hR5 hN5 (fun c hc=>?_) fun w6 hc6 ⟨F',hO6,hF6⟩=>?_
 · rcases hs5 c hc with h | h | h
   · exact .inl h
   · refine .inr fun hm=>?_
     have:=hGX c h
     rcases List.mem_cons.1 hm with e | hm
     · omega
     have:=e2 c hm;omega
   exact .inr fun hm=>by have:=hlts c hm;omega
 have hgF6:g∉F':=by obtain ⟨_,_,_,_,_,hn,_⟩:=hO6;exact hn
 have hc26:Chg (g :: F) w2 w6:=(hx.chg _).trans (hc6.mono fun c hc=>by
   rcases List.mem_cons.1 hc with rfl | hc
   · simp
   simp [hGF c hc])
 have hF':∀ c∈F',c∈F∨w2.heap.size≤c:=fun c hc=>by
   rcases hF6 c hc with h | h
   · rcases List.mem_cons.1 h with rfl | h
     · exact absurd hc hgF6
     exact .inl h
   rcases hs5 c h with h | h | h
   · exact .inl (hGF c h)
   · have:=hGX c h;exact .inr (by omega)
   exact .inr (by omega)
 exact k w6 F' hc26 (h.turn hc26 hO6 hF') hF'
theorem zix {w2:World} {u:Value} {x:DIns} {lo hi:Nat} {K:World→Prop} (h:CoF W g bs c0 c1 c2 ve G L P I F w2) (o:OwnI lo hi w2 u x) (hlo:w2.heap.size≤lo)
   (hI:I.length≤1000000) {rv:Value} (hO:OAt F w2 g 0 (⟨⟨c0⟩,⟨c1⟩,⟨c2⟩,⟨ve⟩,⟨rv,I⟩⟩:DEc)) (k:∀ w4 F4,Chg (g :: F) w2 w4→CoF W g bs c0 c1 c2 ve G L P (I++[x]) F4 w4→(∀ c∈F4,c∈F∨w2.heap.size≤c)→K w4) :
   OP Tryz.prog (Instr.buildSlice 34 1 #[(0,u)]) w2 fun x49 w=>OP Tryz.prog (Builtin.append_ #[34,34] 34 [rv,x49].toArray) w fun x50 w'=>
     NIL (.pointer (some ⟨g,0,none⟩)) (RD Tryz.prog (Instr.fieldAt 36 (.pointer (some ⟨g,0,none⟩)) 4) w' fun x52=>OPU Tryz.prog (Instr.storeAt 34 x52 x50) w' fun w=>K w):=by
 obtain ⟨e1,e2,e3,e5⟩:=h.lt
 obtain ⟨GX,hMX,hGX⟩:=o
 obtain ⟨G1,hL1⟩:=zdk (Lens.var hO)
 obtain ⟨cs1,⟨rfl,hrow⟩,hr1,hnG,_,hg1,_⟩:=hL1.here
 have hGF:∀ c∈G1,c∈F:=fun c hc=>by
   rcases List.mem_cons.1 (hL1.sub c (by simp [hc])) with e | h
   · exact absurd (e▸hc) hg1
   exact h
 have hlts:=hO.lts
 refine ze2 (β:=DIns) (G:=G1) u34 zem z84 zse (by decide) hrow hnG hMX (fun c hc hc'=>by have:=hGX c hc;have:=e2 c (hGF c hc');omega) (by rw [zak];show I.length+1≤_;omega) (by show (I.length+1)*_≤_;omega) (fun w4 v12 w5 G' hx4 hc5 hR5 hN5 hs5=>?_) fun s' w4 hx4 h=>h
 have hs4:=hx4.size
 refine NIL.mk rfl ?_
 refine zaa zaK ?_
 have hc35:Chg G1 w2 w5:=(hx4.chg G1).trans hc5
 refine zgX zdG hL1 hlts hc35 hR5 hN5 (fun c hc=>?_) fun w6 hc6 ⟨F',hO6,hF6⟩=>?_
 · rcases hs5 c hc with h | h | h
   · exact .inl h
   · refine .inr fun hm=>?_
     have:=hGX c h
     rcases List.mem_cons.1 hm with e | hm
     · omega
     have:=e2 c hm;omega
   exact .inr fun hm=>by have:=hlts c hm;omega
 have hgF6:g∉F':=by obtain ⟨_,_,_,_,_,hn,_⟩:=hO6;exact hn
 have hc26:Chg (g :: F) w2 w6:=hc6.mono fun c hc=>by
   rcases List.mem_cons.1 hc with rfl | hc
   · simp
   simp [hGF c hc]
 have hF':∀ c∈F',c∈F∨w2.heap.size≤c:=fun c hc=>by
   rcases hF6 c hc with h | h
   · rcases List.mem_cons.1 h with rfl | h
     · exact absurd hc hgF6
     exact .inl h
   rcases hs5 c h with h | h | h
   · exact .inl (hGF c h)
   · have:=hGX c h;exact .inr (by omega)
   exact .inr (by omega)
 exact k w6 F' hc26 (h.turn hc26 hO6 hF') hF'
theorem zf6 {A R:List DIns} {y:DIns} {k:Nat} {K:World→Prop} (h:CoF W g bs c0 c1 c2 ve G L P (A++y :: R) F w) (hk:A.length=k) (hL:(A++y :: R).length≤1000000)
   (kk:∀ w' F',Chg (g :: F) w w'→CoF W g bs c0 c1 c2 ve G L P (A++(⟨y.op,y.arg,y.term,((A++y :: R).length:Int)⟩:DIns) :: R) F' w'→(∀ c∈F',c∈F)→K w') :
   NIL (.pointer (some ⟨g,0,none⟩))<|RD Tryz.prog (Instr.fieldAt 36 (.pointer (some ⟨g,0,none⟩)) 4) w fun x110=>RD Tryz.prog (Instr.loadAt 34 x110) w fun x111=>
     NIL (.pointer (some ⟨g,0,none⟩))<|RD Tryz.prog (Instr.fieldAt 36 (.pointer (some ⟨g,0,none⟩)) 4) w fun x115=>RD Tryz.prog (Instr.loadAt 34 x115) w fun x116=>
     RD Tryz.prog (Builtin.len_ #[34] 3 [x116].toArray) w fun x117=>RD Tryz.prog (Instr.indexAt 34 x111 (.int .i64 (k:Int))) w fun x118=>RD Tryz.prog (Instr.fieldAt 84 x118 3) w fun x119=>
     OPU Tryz.prog (Instr.storeAt 3 x119 x117) w fun w=>K w:=by
 obtain ⟨e1,e2,e3,e5⟩:=h.lt
 obtain ⟨rv,h2⟩:=h.oat
 have hlts:=h2.lts
 have hkl:k<(A++y :: R).length:=by simp;omega
 obtain ⟨G1,hL1⟩:=zdk (Lens.var h2)
 obtain ⟨cs1,⟨rfl,hrow⟩,hr1,_⟩:=hL1.here
 obtain ⟨b2,a2,cap2,G2,hv2,hG21,hL2⟩:=hL1.elemV (k:=k) hkl
 refine NIL.mk rfl ?_
 refine zaa zaK ?_
 refine zcZ zdG hr1 ?_
 refine NIL.mk rfl ?_
 refine zaa zaK ?_
 refine zcZ zdG hr1 ?_
 refine zaf u34 (show Is w rv (A++y :: R) from hrow.own.is) ?_
 refine zij u34 zem hv2 hkl ?_
 obtain ⟨G3,hL3⟩:=zjX hL2
 refine zaa zeX ?_
 refine zhV ty3 hL3 (zcR (by unfold I64;omega)) (by simp) fun w' hc ⟨F',hO,hF'⟩=>?_
 have hgF':g∉F':=by obtain ⟨_,_,_,_,_,hn,_⟩:=hO;exact hn
 have hF:∀ c∈F',c∈F:=fun c hcm=>by
   rcases hF' c hcm with h | h
   · rcases List.mem_cons.1 h with rfl | h
     · exact absurd hcm hgF'
     exact h
   simp at h
 refine kk w' F' hc (h.turn (rv:=rv) hc ?_ fun c hcm=>.inl (hF c hcm)) hF
 have hO:OAt F' w' g 0 (⟨⟨c0⟩,⟨c1⟩,⟨c2⟩,⟨ve⟩,⟨rv,(A++y :: R).set k ⟨((A++y :: R)[k]'hkl).op,((A++y :: R)[k]'hkl).arg,((A++y :: R)[k]'hkl).term,((A++y :: R).length:Int)⟩⟩⟩:DEc):=hO
 rw [zqK hk,zqL hk hkl] at hO
 exact hO
end
end Go.Proofs.YtcnglfeoglgebaaGreat
namespace Go.Sh
open Rep (rep)
section
variable {P:Program} {X:Nat→Prop} {w W:World} {K:Value→Prop}
theorem zkx {m:Sem Value} {v:Value} (h:∀ w',RD P m w' (fun u=>u=v)) (k:K v):RDX P X m w K:=
 ⟨v,fun w' _=>by obtain ⟨u,hu,rfl⟩:=h w';exact hu w' (Ext.refl w'),k⟩
theorem zhG {α:Type} [Rep α] {t by_ b o:Nat} {x:α} (ht:tyI P t=some (Rep.size α,by_,true)) (ha:Rep.agg α=true) (hn:0<Rep.size α) (h:AtB W w b o x) (hX:¬X b) (k:∀ v,Is W v x→K v) :
   RDX P X (Instr.loadAt t (.pointer (some ⟨b,o,none⟩))) w K:=by
 obtain ⟨F,cs,hr,hc⟩:=h
 obtain ⟨i,d,hi,hd,hs,_,hg⟩:=zbj ht
 have hl:=Rep.len hr
 have hb:=zd5 hc (by omega)
 refine ⟨.agg cs.toArray,fun w' hx'=>?_,k _ ⟨F,cs,hr,by simp [mkv,ha]⟩⟩
 exact run_loadAt_mid w' b o t cs d (zaS hc (hx'.block b hb hX)) hd hg (by simp [hi,hs,hl])
end
end Go.Sh
namespace Go.Proofs.YtcnglfeoglgebaaGreat
open Go Go.Sh Go.Proofs
open Rep (rep)
def F45 (a0 a1:Value) (w:World) (R:VW):Prop:=
 rN 29 3 a1 w fun x9=>
 LOOPI [10] [(iV 0)] w fun u1 w next1=>
 rC (u1 10) x9 w fun x11=>
 BR x11
 (rX 29 a1 (u1 10) w fun x12=>
 rL 56 x12 w fun x13=>
 oP (Instr.alloc 56 true (.tuple #[])) w fun x5 w=>
 oS 56 x5 x13 w fun w=>
 NIL a0 <|
 rF 36 a0 4 w fun x16=>
 rL 34 x16 w fun x17=>
 rN 34 3 x17 w fun x18=>
 rF 56 x5 0 w fun x19=>
 rL 3 x19 w fun x20=>
 rB .eql 3 T0 U0 x20 (iV 1) w fun x32=>
 BR x32
 ((fun w=>XR fun X=>NIL a0 <|
 RDX tp X (Instr.fieldAt 36 a0 4) w fun x36=>
 RDX tp X (Instr.loadAt 34 x36) w fun x37=>
 NIL a0 <|
 RDX tp X (Instr.fieldAt 36 a0 0) w fun x40=>
 RDX tp X (Instr.loadAt 24 x40) w fun x41=>
 RDX tp X (Instr.fieldAt 56 x5 1) w fun x42=>
 RDX tp X (Instr.loadAt 9 x42) w fun x43=>
 RDX tp X (Instr.fieldAt 56 x5 2) w fun x45=>
 RDX tp X (Instr.loadAt 53 x45) w fun x46=>
 (fun w_=>cL 100 [x41,x43] w_ fun x44 w=>
 ExtX X w_ w ∧
 (fun w_=>cL 101 [x46] w_ fun x47 w=>
 ExtX X w_ w ∧
 RDX tp X (Instr.build 84 #[(0,(iV 1)),(1,x44),(2,x47)]) w fun x48=>
 (fun w_=>oP (Instr.buildSlice 34 1 #[(0,x48)]) w_ fun x49 w=>
 ExtX X w_ w ∧
 ((fun w_=>oP (Builtin.append_ #[34,34] 34 [x37,x49].toArray) w_ fun x50 w=>
 ExtX X w_ w ∧
 (NIL a0 <|
 RDX tp X (Instr.fieldAt 36 a0 4) w fun x52=>
 oS 34 x52 x50 w fun w=>
 rA (u1 10) (iV 1) w fun x249=>
 next1 [x249] w)) w)) w) w) w) (World.drew1 w))
 (rB .eql 3 T0 U0 x20 (iV 3) w fun x54=>
 BR x54
 ((fun w=>XR fun X=>NIL a0 <|
 RDX tp X (Instr.fieldAt 36 a0 4) w fun x58=>
 RDX tp X (Instr.loadAt 34 x58) w fun x59=>
 RDX tp X (Instr.fieldAt 56 x5 2) w fun x60=>
 RDX tp X (Instr.loadAt 53 x60) w fun x61=>
 (fun w_=>cL 101 [x61] w_ fun x62 w=>
 ExtX X w_ w ∧
 RDX tp X (Instr.build 84 #[(0,(iV 2)),(2,x62)]) w fun x63=>
 (fun w_=>oP (Instr.buildSlice 34 1 #[(0,x63)]) w_ fun x64 w=>
 ExtX X w_ w ∧
 ((fun w_=>oP (Builtin.append_ #[34,34] 34 [x59,x64].toArray) w_ fun x65 w=>
 ExtX X w_ w ∧
 (NIL a0 <|
 RDX tp X (Instr.fieldAt 36 a0 4) w fun x67=>
 oS 34 x67 x65 w fun w=>
 rF 56 x5 3 w fun x69=>
 rL 29 x69 w fun x70=>
 cL 45 [a0,x70] w fun x71 w=>
 NIL a0 <|
 rF 36 a0 4 w fun x75=>
 rL 34 x75 w fun x76=>
 rD (Instr.build 84 #[(0,(iV 3)),(3,x18)]) w fun x78=>
 oP (Instr.buildSlice 34 1 #[(0,x78)]) w fun x79 w=>
 oP (Builtin.append_ #[34,34] 34 [x76,x79].toArray) w fun x80 w=>
 NIL a0 <|
 rF 36 a0 4 w fun x82=>
 oS 34 x82 x80 w fun w=>
 (fun w=>NIL a0 <|
 rF 36 a0 4 w fun x85=>
 rL 34 x85 w fun x86=>
 NIL a0 <|
 rF 36 a0 4 w fun x90=>
 rL 34 x90 w fun x91=>
 rN 34 3 x91 w fun x92=>
 rX 34 x86 x18 w fun x93=>
 rF 84 x93 3 w fun x94=>
 oS 3 x94 x92 w fun w=>
 rA (u1 10) (iV 1) w fun x249=>
 next1 [x249] w) (World.drew1 w))) w)) w) w) (World.drew1 w))
 (rB .eql 3 T0 U0 x20 (iV 2) w fun x96=>
 BR x96
 ((fun w=>XR fun X=>NIL a0 <|
 RDX tp X (Instr.fieldAt 36 a0 4) w fun x100=>
 RDX tp X (Instr.loadAt 34 x100) w fun x101=>
 RDX tp X (Instr.fieldAt 56 x5 2) w fun x102=>
 RDX tp X (Instr.loadAt 53 x102) w fun x103=>
 (fun w_=>cL 101 [x103] w_ fun x104 w=>
 ExtX X w_ w ∧
 RDX tp X (Instr.build 84 #[(0,(iV 2)),(2,x104)]) w fun x105=>
 (fun w_=>oP (Instr.buildSlice 34 1 #[(0,x105)]) w_ fun x106 w=>
 ExtX X w_ w ∧
 ((fun w_=>oP (Builtin.append_ #[34,34] 34 [x101,x106].toArray) w_ fun x107 w=>
 ExtX X w_ w ∧
 (NIL a0 <|
 RDX tp X (Instr.fieldAt 36 a0 4) w fun x109=>
 oS 34 x109 x107 w fun w=>
 rF 56 x5 3 w fun x111=>
 rL 29 x111 w fun x112=>
 cL 45 [a0,x112] w fun x113 w=>
 rF 56 x5 4 w fun x114=>
 rL 29 x114 w fun x115=>
 rN 29 3 x115 w fun x116=>
 rB .gtr 3 T0 U0 x116 (iV 0) w fun x117=>
 BR x117
 (NIL a0 <|
 rF 36 a0 4 w fun x120=>
 rL 34 x120 w fun x121=>
 rN 34 3 x121 w fun x122=>
 NIL a0 <|
 rF 36 a0 4 w fun x126=>
 rL 34 x126 w fun x127=>
 rD (Instr.build 84 #[(0,(iV 3))]) w fun x128=>
 oP (Instr.buildSlice 34 1 #[(0,x128)]) w fun x129 w=>
 oP (Builtin.append_ #[34,34] 34 [x127,x129].toArray) w fun x130 w=>
 NIL a0 <|
 rF 36 a0 4 w fun x132=>
 oS 34 x132 x130 w fun w=>
 (fun w=>NIL a0 <|
 rF 36 a0 4 w fun x135=>
 rL 34 x135 w fun x136=>
 NIL a0 <|
 rF 36 a0 4 w fun x140=>
 rL 34 x140 w fun x141=>
 rN 34 3 x141 w fun x142=>
 rX 34 x136 x18 w fun x143=>
 rF 84 x143 3 w fun x144=>
 oS 3 x144 x142 w fun w=>
 rF 56 x5 4 w fun x146=>
 rL 29 x146 w fun x147=>
 cL 45 [a0,x147] w fun x148 w=>
 (fun w=>NIL a0 <|
 rF 36 a0 4 w fun x151=>
 rL 34 x151 w fun x152=>
 NIL a0 <|
 rF 36 a0 4 w fun x156=>
 rL 34 x156 w fun x157=>
 rN 34 3 x157 w fun x158=>
 rX 34 x152 x122 w fun x159=>
 rF 84 x159 3 w fun x160=>
 oS 3 x160 x158 w fun w=>
 rA (u1 10) (iV 1) w fun x249=>
 next1 [x249] w) (World.drew1 w)) (World.drew1 w))
 ((fun w=>NIL a0 <|
 rF 36 a0 4 w fun x163=>
 rL 34 x163 w fun x164=>
 NIL a0 <|
 rF 36 a0 4 w fun x168=>
 rL 34 x168 w fun x169=>
 rN 34 3 x169 w fun x170=>
 rX 34 x164 x18 w fun x171=>
 rF 84 x171 3 w fun x172=>
 oS 3 x172 x170 w fun w=>
 rA (u1 10) (iV 1) w fun x249=>
 next1 [x249] w) (World.drew1 w)))) w)) w) w) (World.drew1 w))
 (rB .eql 3 T0 U0 x20 (iV 4) w fun x174=>
 BR x174
 ((fun w=>XR fun X=>NIL a0 <|
 RDX tp X (Instr.fieldAt 36 a0 4) w fun x178=>
 RDX tp X (Instr.loadAt 34 x178) w fun x179=>
 NIL a0 <|
 RDX tp X (Instr.fieldAt 36 a0 2) w fun x182=>
 RDX tp X (Instr.loadAt 24 x182) w fun x183=>
 RDX tp X (Instr.fieldAt 56 x5 1) w fun x184=>
 RDX tp X (Instr.loadAt 9 x184) w fun x185=>
 (fun w_=>cL 100 [x183,x185] w_ fun x186 w=>
 ExtX X w_ w ∧
 RDX tp X (Instr.build 84 #[(0,(iV 4)),(1,x186)]) w fun x187=>
 (fun w_=>oP (Instr.buildSlice 34 1 #[(0,x187)]) w_ fun x188 w=>
 ExtX X w_ w ∧
 ((fun w_=>oP (Builtin.append_ #[34,34] 34 [x179,x188].toArray) w_ fun x189 w=>
 ExtX X w_ w ∧
 (NIL a0 <|
 RDX tp X (Instr.fieldAt 36 a0 4) w fun x191=>
 oS 34 x191 x189 w fun w=>
 rA (u1 10) (iV 1) w fun x249=>
 next1 [x249] w)) w)) w) w) (World.drew1 w))
 (rB .eql 3 T0 U0 x20 (iV 5) w fun x193=>
 BR x193
 ((fun w=>XR fun X=>NIL a0 <|
 RDX tp X (Instr.fieldAt 36 a0 4) w fun x197=>
 RDX tp X (Instr.loadAt 34 x197) w fun x198=>
 NIL a0 <|
 RDX tp X (Instr.fieldAt 36 a0 2) w fun x201=>
 RDX tp X (Instr.loadAt 24 x201) w fun x202=>
 RDX tp X (Instr.fieldAt 56 x5 1) w fun x203=>
 RDX tp X (Instr.loadAt 9 x203) w fun x204=>
 (fun w_=>cL 100 [x202,x204] w_ fun x205 w=>
 ExtX X w_ w ∧
 RDX tp X (Instr.build 84 #[(0,(iV 5)),(1,x205)]) w fun x206=>
 (fun w_=>oP (Instr.buildSlice 34 1 #[(0,x206)]) w_ fun x207 w=>
 ExtX X w_ w ∧
 ((fun w_=>oP (Builtin.append_ #[34,34] 34 [x198,x207].toArray) w_ fun x208 w=>
 ExtX X w_ w ∧
 (NIL a0 <|
 RDX tp X (Instr.fieldAt 36 a0 4) w fun x210=>
 oS 34 x210 x208 w fun w=>
 rA (u1 10) (iV 1) w fun x249=>
 next1 [x249] w)) w)) w) w) (World.drew1 w))
 (rB .eql 3 T0 U0 x20 (iV 6) w fun x212=>
 BR x212
 ((fun w=>XR fun X=>NIL a0 <|
 RDX tp X (Instr.fieldAt 36 a0 4) w fun x216=>
 RDX tp X (Instr.loadAt 34 x216) w fun x217=>
 NIL a0 <|
 RDX tp X (Instr.fieldAt 36 a0 1) w fun x220=>
 RDX tp X (Instr.loadAt 24 x220) w fun x221=>
 RDX tp X (Instr.fieldAt 56 x5 1) w fun x222=>
 RDX tp X (Instr.loadAt 9 x222) w fun x223=>
 (fun w_=>cL 100 [x221,x223] w_ fun x224 w=>
 ExtX X w_ w ∧
 RDX tp X (Instr.build 84 #[(0,(iV 6)),(1,x224)]) w fun x225=>
 (fun w_=>oP (Instr.buildSlice 34 1 #[(0,x225)]) w_ fun x226 w=>
 ExtX X w_ w ∧
 ((fun w_=>oP (Builtin.append_ #[34,34] 34 [x217,x226].toArray) w_ fun x227 w=>
 ExtX X w_ w ∧
 (NIL a0 <|
 RDX tp X (Instr.fieldAt 36 a0 4) w fun x229=>
 oS 34 x229 x227 w fun w=>
 rA (u1 10) (iV 1) w fun x249=>
 next1 [x249] w)) w)) w) w) (World.drew1 w))
 (rB .eql 3 T0 U0 x20 (iV 7) w fun x231=>
 BR x231
 ((fun w=>XR fun X=>NIL a0 <|
 RDX tp X (Instr.fieldAt 36 a0 4) w fun x235=>
 RDX tp X (Instr.loadAt 34 x235) w fun x236=>
 NIL a0 <|
 RDX tp X (Instr.fieldAt 36 a0 1) w fun x239=>
 RDX tp X (Instr.loadAt 24 x239) w fun x240=>
 RDX tp X (Instr.fieldAt 56 x5 1) w fun x241=>
 RDX tp X (Instr.loadAt 9 x241) w fun x242=>
 (fun w_=>cL 100 [x240,x242] w_ fun x243 w=>
 ExtX X w_ w ∧
 RDX tp X (Instr.build 84 #[(0,(iV 7)),(1,x243)]) w fun x244=>
 (fun w_=>oP (Instr.buildSlice 34 1 #[(0,x244)]) w_ fun x245 w=>
 ExtX X w_ w ∧
 ((fun w_=>oP (Builtin.append_ #[34,34] 34 [x236,x245].toArray) w_ fun x246 w=>
 ExtX X w_ w ∧
 (NIL a0 <|
 RDX tp X (Instr.fieldAt 36 a0 4) w fun x248=>
 oS 34 x248 x246 w fun w=>
 rA (u1 10) (iV 1) w fun x249=>
 next1 [x249] w)) w)) w) w) (World.drew1 w))
 (NIL a0 <|
 rF 36 a0 4 w fun x24=>
 rL 34 x24 w fun x25=>
 rD (Instr.build 84 #[(0,(iV 8))]) w fun x26=>
 oP (Instr.buildSlice 34 1 #[(0,x26)]) w fun x27 w=>
 oP (Builtin.append_ #[34,34] 34 [x25,x27].toArray) w fun x28 w=>
 NIL a0 <|
 rF 36 a0 4 w fun x30=>
 oS 34 x30 x28 w fun w=>
 rA (u1 10) (iV 1) w fun x249=>
 next1 [x249] w))))))))
 (R (Value.tuple #[]) w)
def cfg45:Cfg:={ ext:=extL,joins:=[],loops:=[(1,1809251394333065553493296640760748560207343510400633813116524750123642649824,[10])],draws:=[(7,[0,1,2,3,4,5,6,7,8,9,10,12,13,11,14,15,16,17,18,19,20],215040),(9,[0,1,2,3,4,5,6,7,8,9,10,11,12,13],1664),(12,[0,1,2,3,4,5,6,7,8,9,10,11,12],0),(14,[0,1,2,3,4,5,6,7,8,9,10,11,12,13],1664),(19,[0,1,2,3,4,5,6,7,8,9,10,11,12],0),(21,[0,1,2,3,4,5,6,7,8,9,10,11,12],0),(22,[0,1,2,3,4,5,6,7,8,9,10,11,12],0),(24,[0,1,2,3,4,5,6,7,8,9,10,11,12,13,14,15,16,17],26624),(26,[0,1,2,3,4,5,6,7,8,9,10,11,12,13,14,15,16,17],26624),(28,[0,1,2,3,4,5,6,7,8,9,10,11,12,13,14,15,16,17],26624),(30,[0,1,2,3,4,5,6,7,8,9,10,11,12,13,14,15,16,17],26624)],pars:=[],xs:=[7,9,14,24,26,28,30] }
theorem F45_call {a0 a1:Value} {w:World} {R:VW} (h:F45 a0 a1 w R):cL 45 [a0,a1] w R:=co (g:=cfg45) Tryz.func45 (by kernel_rfl) (by kernel_rfl) (by kernel_rfl) h
open Rep (rep)
theorem zrH {W w:World} {b:Nat} {x:DStmt} (h:AtB W w b 0 x):w.rangeAt b (0+1) [.string x.name]:=by
 obtain ⟨F,cs,hr,hc⟩:=h
 have h:AtB W w b 0 x.tup:=⟨F,cs,zcU.1 hr,hc⟩
 obtain ⟨F,cs,⟨_,rfl,_⟩,hr⟩:=h.snd.fst
 exact hr
theorem zrI {W w:World} {b:Nat} {x:DStmt} (h:AtB W w b 0 x):AtB W w b (0+2) x.term:=by
 obtain ⟨F,cs,hr,hc⟩:=h
 have h:AtB W w b 0 x.tup:=⟨F,cs,zcU.1 hr,hc⟩
 exact h.snd.snd.fst
section
variable {w:World} {lo hi:Nat} {K:Value→Prop} {X:Nat→Prop}
theorem zjy {a b:Int} {u:Value} {t:DTerm} (ha:I64 a) (hb:I64 b) (hu:OwnI lo hi w u t) (k:∀ v,OwnI lo hi w v (⟨a,b,t,0⟩:DIns)→K v):RDX Tryz.prog X (Instr.build 84 #[(0,.int .i64 a),(1,.int .i64 b),(2,u)]) w K:=by
 obtain ⟨p,q,rfl⟩:=zhB hu.is
 exact zkx (fun w'=>zaz (cells:=#[.int .i64 a,.int .i64 b,.int .i64 t.kind,.int .i64 t.num,.string t.name,.slice p t.kids.length q,.int .i64 0]) (by kernel_rfl) rfl) (k _ (zfh ha hb zgV hu))
theorem zky {a:Int} {u:Value} {t:DTerm} (ha:I64 a) (hu:OwnI lo hi w u t) (k:∀ v,OwnI lo hi w v (⟨a,0,t,0⟩:DIns)→K v):RDX Tryz.prog X (Instr.build 84 #[(0,.int .i64 a),(2,u)]) w K:=by
 obtain ⟨p,q,rfl⟩:=zhB hu.is
 exact zkx (fun w'=>zaz (cells:=#[.int .i64 a,.int .i64 0,.int .i64 t.kind,.int .i64 t.num,.string t.name,.slice p t.kids.length q,.int .i64 0]) (by kernel_rfl) rfl) (k _ (zfh ha zgV zgV hu))
theorem zkz {a b:Int} (ha:I64 a) (hb:I64 b) (k:∀ v,OwnI lo hi w v (⟨a,b,zaM,0⟩:DIns)→K v):RDX Tryz.prog X (Instr.build 84 #[(0,.int .i64 a),(1,.int .i64 b)]) w K:=by
 refine zkx (v:=.agg #[.int .i64 a,.int .i64 b,.int .i64 0,.int .i64 0,.string nO,.slice none 0 0,.int .i64 0]) (fun w'=>zaz (cells:=#[.int .i64 a,.int .i64 b,.int .i64 0,.int .i64 0,.string nO,.slice none 0 0,.int .i64 0]) (by kernel_rfl) rfl) ?_
 exact k _ (zfh ha hb zgV zel)
end
section
variable {W w:World} {g bs:Nat} {c0 c1 c2 ve:Value} {G L P:List ByteArray} {I:List DIns} {F:List Nat}
theorem zf7 {j g5:Nat} {cj:Value} {l:List ByteArray} {op:Int} {x:DStmt} {K:World→Prop} (h:CoF W g bs c0 c1 c2 ve G L P I F w) (hf:zcE Tryz.prog 36 j=some j) (hj:(j=0∧cj=c0∧l=G)∨(j=1∧cj=c1∧l=L)∨(j=2∧cj=c2∧l=P))
   (ho:I64 op) (hB:AtB W w g5 0 x) (h5:g5∉F) (hI:I.length≤1000000) (k:∀ w4 F4,Chg (g :: F) w w4→CoF W g bs c0 c1 c2 ve G L P (I++[⟨op,plc x.name l,zaM,0⟩]) F4 w4→(∀ c∈F4,c∈F∨w.heap.size≤c)→K w4) :
   XR fun X=>NIL (.pointer (some ⟨g,0,none⟩))<|RDX Tryz.prog X (Instr.fieldAt 36 (.pointer (some ⟨g,0,none⟩)) 4) w fun x36=>RDX Tryz.prog X (Instr.loadAt 34 x36) w fun x37=>
     NIL (.pointer (some ⟨g,0,none⟩))<|RDX Tryz.prog X (Instr.fieldAt 36 (.pointer (some ⟨g,0,none⟩)) j) w fun x40=>RDX Tryz.prog X (Instr.loadAt 24 x40) w fun x41=>
     RDX Tryz.prog X (Instr.fieldAt 56 (.pointer (some ⟨g5,0,none⟩)) 1) w fun x42=>RDX Tryz.prog X (Instr.loadAt 9 x42) w fun x43=>CALL Tryz.prog 100 [x41,x43] w fun x44 w1=>
     ExtX X w w1∧RDX Tryz.prog X (Instr.build 84 #[(0,.int .i64 op),(1,x44)]) w1 fun x48=>OP Tryz.prog (Instr.buildSlice 34 1 #[(0,x48)]) w1 fun x49 w2=>ExtX X w1 w2 ∧
     OP Tryz.prog (Builtin.append_ #[34,34] 34 [x37,x49].toArray) w2 fun x50 w3=>ExtX X w2 w3∧NIL (.pointer (some ⟨g,0,none⟩)) (RDX Tryz.prog X (Instr.fieldAt 36 (.pointer (some ⟨g,0,none⟩)) 4) w3 fun x52=>
     OPU Tryz.prog (Instr.storeAt 34 x52 x50) w3 fun w=>K w):=by
 obtain ⟨e1,e2,e3,e5⟩:=h.lt
 obtain ⟨rv,hr,hi,hO⟩:=zfj h
 obtain ⟨hn,hIs⟩:=zn4 h hj
 refine XR.mk (fun c=>c∈F) ?_
 refine NIL.mk rfl ?_
 refine zc0 zaK ?_
 refine zdv zdG hr e3 ?_
 refine NIL.mk rfl ?_
 refine zc0 hf ?_
 refine zdv zdQ hn e3 ?_
 refine zc0 zc8 ?_
 refine zdv ty9 (zrH hB) h5 ?_
 refine (zeu hIs (Ext.refl _)).mono ?_
 rintro _ w4 ⟨hx4,rfl⟩
 refine ⟨hx4.toX,?_⟩
 have hpl:=zkZ (s:=x.name) (l:=l)
 have hpl2:=zan hIs
 refine zkz (lo:=w4.heap.size) (hi:=w4.heap.size) ho (by unfold I64;omega) fun v48 o48=>?_
 exact zkw h hO hx4 o48 hx4.size (Nat.le_refl _) hI k
theorem zn5 {g5:Nat} {x:DStmt} {K:World→Prop} (h:CoF W g bs c0 c1 c2 ve G L P I F w) (hB:AtB W w g5 0 x) (h5:g5∉F) (hI:I.length≤1000000) (hw:wT x.term≤24)
   (k:∀ w4 F4,Chg (g :: F) w w4→CoF W g bs c0 c1 c2 ve G L P (I++[⟨2,0,x.term,0⟩]) F4 w4→(∀ c∈F4,c∈F∨w.heap.size≤c)→K w4) :
   XR fun X=>NIL (.pointer (some ⟨g,0,none⟩))<|RDX Tryz.prog X (Instr.fieldAt 36 (.pointer (some ⟨g,0,none⟩)) 4) w fun x36=>RDX Tryz.prog X (Instr.loadAt 34 x36) w fun x37=>
     RDX Tryz.prog X (Instr.fieldAt 56 (.pointer (some ⟨g5,0,none⟩)) 2) w fun x60=>RDX Tryz.prog X (Instr.loadAt 53 x60) w fun x61=>CALL Tryz.prog 101 [x61] w fun x62 w1=>
     ExtX X w w1∧RDX Tryz.prog X (Instr.build 84 #[(0,.int .i64 2),(2,x62)]) w1 fun x48=>OP Tryz.prog (Instr.buildSlice 34 1 #[(0,x48)]) w1 fun x49 w2=>ExtX X w1 w2 ∧
     OP Tryz.prog (Builtin.append_ #[34,34] 34 [x37,x49].toArray) w2 fun x50 w3=>ExtX X w2 w3∧NIL (.pointer (some ⟨g,0,none⟩)) (RDX Tryz.prog X (Instr.fieldAt 36 (.pointer (some ⟨g,0,none⟩)) 4) w3 fun x52=>
     OPU Tryz.prog (Instr.storeAt 34 x52 x50) w3 fun w=>K w):=by
 obtain ⟨e1,e2,e3,e5⟩:=h.lt
 obtain ⟨rv,hr,hi,hO⟩:=zfj h
 refine XR.mk (fun c=>c∈F) ?_
 refine NIL.mk rfl ?_
 refine zc0 zaK ?_
 refine zdv zdG hr e3 ?_
 refine zc0 zdR ?_
 refine zhG zcn rfl (by decide) (zrI hB) h5 fun v61 h61=>?_
 refine (zgZ _ h61 h.old (by omega)).mono ?_
 rintro v62 w4 ⟨hx4,o62⟩
 refine ⟨hx4.toX,?_⟩
 refine zky (by unfold I64;omega) o62.toI fun v48 o48=>?_
 exact zkw h hO hx4 o48 (Nat.le_refl _) hx4.size hI k
end
def zkA (c:Scp) (n:Nat) (l:List DStmt):Prop:=∀ {W w:World} {g bs:Nat} {c0 c1 c2 ve:Value} {G L P:List ByteArray} {I:List DIns} {F:List Nat} {v:Value},CoF W g bs c0 c1 c2 ve G L P I F w→Is W v l→(∀ x∈l,StR c n x)→I.length+2*szL l≤1000000 →
 CALL Tryz.prog 45 [.pointer (some ⟨g,0,none⟩),v] w fun r w'=>Chg (g :: F) w w'∧∃ F',CoF W g bs c0 c1 c2 ve G L P (I++emL G L P l I.length) F' w'∧∀ c∈F',c∈F∨w.heap.size≤c
def AdI (W w:World) (g bs:Nat) (c0 c1 c2 ve:Value) (G L P:List ByteArray) (I:List DIns) (F:List Nat) (l:List DStmt) (k:Nat) (us:List Value) (w':World):Prop:=
 us=[.int .i64 (k:Int)]∧∃ I1 F1,k≤l.length∧I++emL G L P l I.length=I1++emL G L P (l.drop k) I1.length∧I1.length+2*szL (l.drop k)≤1000000 ∧
   Chg (g :: F) w w'∧CoF W g bs c0 c1 c2 ve G L P I1 F1 w'∧∀ c∈F1,c∈F∨w.heap.size≤c
theorem zfk {c:Scp} {n:Nat} {l:List DStmt} (ih:∀ m l,m+1=n→zkA c m l) (inil:∀ m,zkA c m []):zkA c n l:=by
 intro W w g bs c0 c1 c2 ve G L P I F v hE h hs hlen
 have hln:=zan h
 obtain ⟨-,e2,e4,e5⟩:=hE.lt
 have e1:=hE.lt.1
 have e3:=hE.gW
 refine F45_call ?_
 unfold F45
 refine zaf u29 h ?_
 refine zaE l.length (AdI W w g bs c0 c1 c2 ve G L P I F l) 0 (Nat.zero_le _) ⟨rfl,I,F,Nat.zero_le _,by simp,by simpa using hlen,Chg.refl _ _,hE,fun c hc=>.inl hc⟩ ?_
 rintro k m u w1 hkm ⟨hu,L1,F1,hkl,heq,hlen1,hc1,hE1,hF1⟩
 simp only [List.map_cons,List.map_nil,List.cons.injEq,and_true] at hu
 rw [hu]
 have hsz1:=hc1.size
 refine zal ?_
 refine br (fun hlt=>?_) (fun hge=>?_)
 rotate_left
 · have hk:k=l.length:=by omega
   subst hk
   rw [List.drop_length,emL,List.append_nil] at heq
   rw [heq]
   exact ⟨hc1,F1,hE1,hF1⟩
 have hk:k<l.length:=by omega
 obtain ⟨x,hx⟩:∃ x,x=l[k]:=⟨_,rfl⟩
 have hxs:StR c n x:=by rw [hx];exact hs _ (List.getElem_mem hk)
 have hdr:l.drop k=x :: l.drop (k+1):=by rw [hx];exact List.drop_eq_getElem_cons hk
 rw [hdr,emL] at heq
 rw [hdr,szL] at hlen1
 have hel:=zn0 G L P x L1.length
 have hszx:=zkv x
 have hfin:∀ w' F2,Chg (g :: F) w w'→CoF W g bs c0 c1 c2 ve G L P (L1++emS G L P x L1.length) F2 w'→(∀ c∈F2,c∈F∨w.heap.size≤c) →
     ∃ m',m'<m∧∃ k',k'+m'=l.length∧AdI W w g bs c0 c1 c2 ve G L P I F l k' [.int .i64 ((k+1:Nat):Int)] w':=fun w' F2 hc hE hF=>
   ⟨m-1,by omega,k+1,by omega,rfl,_,F2,by omega,by rw [heq,List.length_append,List.append_assoc],by rw [List.length_append];omega,hc,hE,hF⟩
 obtain ⟨f1,f2,f4,f5⟩:=hE1.lt
 have hW1:=hE1.old
 refine zad u29 zc7 h hk fun b12 o12 hA12=>?_
 rw [←hx] at hA12
 refine zab zc7 hA12 hW1 fun v13 h13=>?_
 refine zbB zoj rfl zc7 rfl h13 hW1 fun w2 hx2 hA5 hV5=>?_
 have hs2:=hx2.size
 have hg5:=hV5.lt
 have hE2:=hE1.ext hx2
 have hB5:=zeA h13 hV5 rfl
 have hc2:Chg (g :: F) w w2:=hc1.trans (hx2.chg _)
 have h5F:w1.heap.size∉F1:=fun hm=>by have:=f2 _ hm;omega
 have hkind:(x.kind=1∨x.kind=2∨x.kind=3)→TmR c.gl x.term:=fun hq=>by
   have h0:St0 c x→TmR c.gl x.term:=fun q=>by
     rcases q with q | q | q | q
     · exact q.2.2.1
     · have:=q.1;omega
     · have:=q.1;omega
     have:=q.1;omega
   cases n with
   | zero=>exact h0 hxs.zero
   | succ n=>
     rcases hxs.succ with q | ⟨_,_,h3,_⟩
     · exact h0 q
     exact h3
 have hkid:∃ q,(∀ y∈x.body,StR c q y)∧(∀ y∈x.els,StR c q y)∧zkA c q x.body∧zkA c q x.els:=by
   have h0:St0 c x→x.body=[]∧x.els=[]:=fun h=>by rcases h with q | q | q | q<;>exact ⟨q.2.2.2.1,q.2.2.2.2⟩
   cases n with
   | zero=>
     obtain ⟨h1,h2⟩:=h0 hxs.zero
     rw [h1,h2]
     exact ⟨0,by simp,by simp,inil 0,inil 0⟩
   | succ n=>
     rcases hxs.succ with q | ⟨_,_,_,h4,h5⟩
     · obtain ⟨h1,h2⟩:=h0 q
       rw [h1,h2]
       exact ⟨0,by simp,by simp,inil 0,inil 0⟩
     exact ⟨n,h4,h5,ih n _ rfl,ih n _ rfl⟩
 obtain ⟨q,hqb,hqe,ihb,ihe⟩:=hkid
 have hat2:=hB5.at hE2.old
 refine NIL.mk rfl ?_
 refine zaa zaK ?_
 obtain ⟨rv2,hr2,hi2,hO2⟩:=zfj hE2
 refine zcZ zdG hr2 ?_
 refine zaf u34 hi2 ?_
 refine zaa ziJ ?_
 refine zac ty3 (zdh hat2) (Ext.refl _) fun hI20=>?_
 have hx3:=zao w2
 have hs3:(World.drew1 w2).heap.size=w2.heap.size:=rfl
 have hE3:=hE2.ext hx3
 have hB3:=hB5.ext hx3
 have hc3:=hc2.trans (hx3.chg (g :: F))
 refine zai ?_
 refine br (fun k1=>?_) (fun k1=>?_)
 · obtain ⟨rv3,hr3,hi3,hO3⟩:=zfj hE3
   obtain ⟨hn0,hIs0⟩:=zn4 (j:=0) hE3 (.inl ⟨rfl,rfl,rfl⟩)
   refine XR.mk (fun c=>c∈F1) ?_
   refine NIL.mk rfl ?_
   refine zc0 zaK ?_
   refine zdv zdG hr3 f4 ?_
   refine NIL.mk rfl ?_
   refine zc0 zgi ?_
   refine zdv zdQ hn0 f4 ?_
   refine zc0 zc8 ?_
   refine zdv ty9 (zrH hB3) h5F ?_
   refine zc0 zdR ?_
   refine zhG zcn rfl (by decide) (zrI hB3) h5F fun v46 h46=>?_
   refine (zeu hIs0 (Ext.refl _)).mono ?_
   rintro _ w4 ⟨hx4,rfl⟩
   refine ⟨hx4.toX,?_⟩
   have hw24:=(hkind (.inl k1)).2.2
   refine (zgZ _ h46 (hE3.old.trans hx4) (by omega)).mono ?_
   rintro v47 w5 ⟨hx5,o47⟩
   have o47:=o47.toI
   have hs4:=hx4.size
   have hs5:=hx5.size
   refine ⟨hx5.toX,?_⟩
   have hpl:=zkZ (s:=x.name) (l:=G)
   have hpl2:=zan hIs0
   refine zjy (by unfold I64;omega) (by unfold I64;omega) o47 fun v48 o48=>?_
   refine zkw hE3 hO3 (hx4.trans hx5) o48 (by omega) (by omega) (by omega) fun w6 F6 hc6 hE6 hF6=>?_
   refine zag (by omega) ?_
   refine hfin w6 F6 (za6 hc3 hc6 hF1) ?_ fun c hc=>(hF6 c hc).elim (hF1 c) fun h=>.inr (by omega)
   rw [zdC,if_pos k1];exact hE6
 have hlb:=zfI G L P x.body (L1.length+1)
 have e23:L1++[(⟨2,0,x.term,0⟩:DIns)]++emL G L P x.body (L1++[(⟨2,0,x.term,0⟩:DIns)]).length=L1++(⟨2,0,x.term,0⟩:DIns) :: emL G L P x.body (L1.length+1):=by simp
 refine zai ?_
 refine br (fun k3=>?_) (fun k3=>?_)
 · have hw24:=(hkind (.inr (.inr k3))).2.2
   refine zn5 hE3 hB3 h5F (by omega) hw24 fun w5 F5 hc5 hE5 hF5=>?_
   have hs5:=hc5.size
   have hF5':∀ c∈F5,c∈F∨w.heap.size≤c:=fun c hc=>(hF5 c hc).elim (hF1 c) fun h=>.inr (by omega)
   have hc05:=za6 hc3 hc5 hF1
   have hB5':=hB3.keep (hc5.block _ (by omega) fun hm=>by
     rcases List.mem_cons.1 hm with e | hm
     · omega
     exact h5F hm)
   refine zaa zer ?_
   refine zb9 zfV (zqN hB5') hE5.old (Ext.refl _) fun v70 h70=>?_
   refine (ihb hE5 h70 hqb (by simp;omega)).mono ?_
   rintro r71 w6 ⟨hc6,F6,hE6,hF6⟩
   have hs6:=hc6.size
   have hF6':∀ c∈F6,c∈F∨w.heap.size≤c:=fun c hc=>(hF6 c hc).elim (hF5' c) fun h=>.inr (by omega)
   have hc06:=za6 hc05 hc6 hF5'
   rw [e23] at hE6
   obtain ⟨B,hB⟩:∃ B,B=emL G L P x.body (L1.length+1):=⟨_,rfl⟩
   rw [←hB] at hE6 hlb
   refine NIL.mk rfl ?_
   refine zaa zaK ?_
   obtain ⟨rv6,hr6,hi6,hO6⟩:=zfj hE6
   refine zcZ zdG hr6 ?_
   refine zmi (lo:=w6.heap.size) (hi:=w6.heap.size) (by unfold I64;omega) (by unfold I64;omega) fun v78 o78=>?_
   refine zix hE6 o78 (Nat.le_refl _) (by simp;omega) hO6 fun w7 F7 hc7 hE7 hF7=>?_
   have hs7:=hc7.size
   have hx8:=zao w7
   have e7:L1++(⟨2,0,x.term,0⟩:DIns) :: B++[⟨3,0,zaM,(L1.length:Int)⟩]=L1++(⟨2,0,x.term,0⟩:DIns) :: (B++[⟨3,0,zaM,(L1.length:Int)⟩]):=by simp
   rw [e7] at hE7
   have hF7':∀ c∈F7,c∈F∨w.heap.size≤c:=fun c hc=>(hF7 c hc).elim (hF6' c) fun h=>.inr (by omega)
   have hc07:=za6 hc06 hc7 hF6'
   refine zf6 (hE7.ext hx8) rfl (by simp;omega) fun w9 F9 hc9 hE9 hF9=>?_
   refine zag (by omega) ?_
   refine hfin w9 F9 (za6 (hc07.trans (hx8.chg _)) hc9 hF7') ?_ fun c hc=>hF7' c (hF9 c hc)
   rw [zdC,if_neg k1,if_neg (by omega),if_neg (by omega),if_neg (by omega),if_neg (by omega),if_neg (by omega),if_pos k3,←hB]
   have:((L1++(⟨2,0,x.term,0⟩:DIns) :: (B++[⟨3,0,zaM,(L1.length:Int)⟩])).length:Int)=((L1.length+1+B.length+1:Nat):Int):=by
     simp only [List.length_append,List.length_cons,List.length_nil];omega
   rw [this] at hE9
   exact hE9
 refine zai ?_
 refine br (fun k2=>?_) (fun k2=>?_)
 · have hw24:=(hkind (.inr (.inl k2))).2.2
   refine zn5 hE3 hB3 h5F (by omega) hw24 fun w5 F5 hc5 hE5 hF5=>?_
   have hs5:=hc5.size
   have hF5':∀ c∈F5,c∈F∨w.heap.size≤c:=fun c hc=>(hF5 c hc).elim (hF1 c) fun h=>.inr (by omega)
   have hc05:=za6 hc3 hc5 hF1
   have hgF5:w1.heap.size∉F5:=fun hm=>(hF5 _ hm).elim h5F fun h=>by omega
   have hB5':=hB3.keep (hc5.block _ (by omega) fun hm=>by
     rcases List.mem_cons.1 hm with e | hm
     · omega
     exact h5F hm)
   refine zaa zer ?_
   refine zb9 zfV (zqN hB5') hE5.old (Ext.refl _) fun v112 h112=>?_
   refine (ihb hE5 h112 hqb (by simp;omega)).mono ?_
   rintro r113 w6 ⟨hc6,F6,hE6,hF6⟩
   have hs6:=hc6.size
   have hF6':∀ c∈F6,c∈F∨w.heap.size≤c:=fun c hc=>(hF6 c hc).elim (hF5' c) fun h=>.inr (by omega)
   have hc06:=za6 hc05 hc6 hF5'
   have hgF6:w1.heap.size∉F6:=fun hm=>(hF6 _ hm).elim hgF5 fun h=>by omega
   have hB6:=hB5'.keep (hc6.block _ (by omega) fun hm=>by
     rcases List.mem_cons.1 hm with e | hm
     · omega
     exact hgF5 hm)
   rw [e23] at hE6
   obtain ⟨B,hB⟩:∃ B,B=emL G L P x.body (L1.length+1):=⟨_,rfl⟩
   rw [←hB] at hE6 hlb
   refine zaa zdS ?_
   refine zb9 zfV (zqO hB6) hE6.old (Ext.refl _) fun v115 h115=>?_
   refine zaf u29 h115 ?_
   refine zdP ?_
   refine br (fun ke=>?_) (fun ke=>?_)
   · obtain ⟨rv6,hr6,hi6,hO6⟩:=zfj hE6
     refine NIL.mk rfl ?_
     refine zaa zaK ?_
     refine zcZ zdG hr6 ?_
     refine zaf u34 hi6 ?_
     refine NIL.mk rfl ?_
     refine zaa zaK ?_
     refine zcZ zdG hr6 ?_
     refine zgY (lo:=w6.heap.size) (hi:=w6.heap.size) (by unfold I64;omega) fun v128 o128=>?_
     refine zix hE6 o128 (Nat.le_refl _) (by simp;omega) hO6 fun w7 F7 hc7 hE7 hF7=>?_
     have hs7:=hc7.size
     have hx8:=zao w7
     have hs8:=hx8.size
     have e7:L1++(⟨2,0,x.term,0⟩:DIns) :: B++[⟨3,0,zaM,0⟩]=L1++(⟨2,0,x.term,0⟩:DIns) :: (B++[⟨3,0,zaM,0⟩]):=by simp
     rw [e7] at hE7
     have hF7':∀ c∈F7,c∈F∨w.heap.size≤c:=fun c hc=>(hF7 c hc).elim (hF6' c) fun h=>.inr (by omega)
     have hc07:=za6 hc06 hc7 hF6'
     have hgF7:w1.heap.size∉F7:=fun hm=>(hF7 _ hm).elim hgF6 fun h=>by omega
     have hB7:=hB6.keep (hc7.block _ (by omega) fun hm=>by
       rcases List.mem_cons.1 hm with e | hm
       · omega
       exact hgF6 hm)
     refine zf6 (hE7.ext hx8) rfl (by simp;omega) fun w9 F9 hc9 hE9 hF9=>?_
     have hs9:=hc9.size
     have hB9:=(hB7.ext hx8).keep (hc9.block _ (by omega) fun hm=>by
       rcases List.mem_cons.1 hm with e | hm
       · omega
       exact hgF7 hm)
     refine zaa zdS ?_
     refine zb9 zfV (zqO hB9) hE9.old (Ext.refl _) fun v147 h147=>?_
     obtain ⟨y0,hy0⟩:∃ y0:DIns,y0=⟨2,0,x.term,((L1++(⟨2,0,x.term,0⟩:DIns) :: (B++[⟨3,0,zaM,0⟩])).length:Int)⟩:=⟨_,rfl⟩
     have hE9:CoF W g bs c0 c1 c2 ve G L P (L1++y0 :: (B++[⟨3,0,zaM,0⟩])) F9 w9:=by rw [hy0];exact hE9
     refine (ihe hE9 h147 hqe (by simp;omega)).mono ?_
     rintro r148 w10 ⟨hc10,F10,hE10,hF10⟩
     have hF9':∀ c∈F9,c∈F∨w.heap.size≤c:=fun c hc=>hF7' c (hF9 c hc)
     have hF10':∀ c∈F10,c∈F∨w.heap.size≤c:=fun c hc=>(hF10 c hc).elim (hF9' c) fun h=>.inr (by omega)
     have hc010:=za6 (za6 (hc07.trans (hx8.chg _)) hc9 hF7') hc10 hF9'
     have hx11:=zao w10
     have hle:=zfI G L P x.els (L1++y0 :: (B++[⟨3,0,zaM,0⟩])).length
     have hn9:(L1++y0 :: (B++[(⟨3,0,zaM,0⟩:DIns)])).length=L1.length+1+B.length+1:=by simp only [List.length_append,List.length_cons,List.length_nil];omega
     rw [hn9] at hE10 hle
     obtain ⟨E,hEe⟩:∃ E,E=emL G L P x.els (L1.length+1+B.length+1):=⟨_,rfl⟩
     rw [←hEe] at hE10 hle
     have e10:L1++y0 :: (B++[(⟨3,0,zaM,0⟩:DIns)])++E=(L1++y0 :: B)++(⟨3,0,zaM,0⟩:DIns) :: E:=by simp
     rw [e10] at hE10
     refine zf6 (hE10.ext hx11) (by simp) (by simp only [List.length_append,List.length_cons];omega) fun w12 F12 hc12 hE12 hF12=>?_
     refine zag (by omega) ?_
     refine hfin w12 F12 (za6 (hc010.trans (hx11.chg _)) hc12 hF10') ?_ fun c hc=>hF10' c (hF12 c hc)
     rw [zdC,if_neg k1,if_neg (by omega),if_neg (by omega),if_neg (by omega),if_neg (by omega),if_neg (by omega),if_neg k3,if_pos k2,if_neg (by omega),←hB,←hEe]
     have q1:y0=⟨2,0,x.term,((L1.length+1+B.length+1:Nat):Int)⟩:=by
       rw [hy0];congr 1
       simp only [List.length_append,List.length_cons,List.length_nil];omega
     have q2:(((L1++y0 :: B)++(⟨3,0,zaM,0⟩:DIns) :: E).length:Int)=((L1.length+1+B.length+1+E.length:Nat):Int):=by
       simp only [List.length_append,List.length_cons,List.length_nil];omega
     rw [q2,q1] at hE12
     simpa using hE12
   have hx8:=zao w6
   refine zf6 (hE6.ext hx8) rfl (by simp;omega) fun w9 F9 hc9 hE9 hF9=>?_
   refine zag (by omega) ?_
   refine hfin w9 F9 (za6 (hc06.trans (hx8.chg _)) hc9 hF6') ?_ fun c hc=>hF6' c (hF9 c hc)
   rw [zdC,if_neg k1,if_neg (by omega),if_neg (by omega),if_neg (by omega),if_neg (by omega),if_neg (by omega),if_neg k3,if_pos k2,if_pos (by omega),←hB]
   have:((L1++(⟨2,0,x.term,0⟩:DIns) :: B).length:Int)=((L1.length+1+B.length:Nat):Int):=by
     simp only [List.length_append,List.length_cons,List.length_nil];omega
   rw [this] at hE9
   exact hE9
 refine zai ?_
 refine br (fun k4=>?_) (fun k4=>?_)
 · refine zf7 (j:=2) hE3 zc5 (.inr (.inr ⟨rfl,rfl,rfl⟩)) (by unfold I64;omega) hB3 h5F (by omega) fun w4 F4 hc4 hE4 hF4=>?_
   refine zag (by omega) ?_
   refine hfin w4 F4 (za6 hc3 hc4 hF1) ?_ fun c hc=>(hF4 c hc).elim (hF1 c) fun h=>.inr (by omega)
   rw [zdC,if_neg k1,if_pos k4];exact hE4
 refine zai ?_
 refine br (fun k5=>?_) (fun k5=>?_)
 · refine zf7 (j:=2) hE3 zc5 (.inr (.inr ⟨rfl,rfl,rfl⟩)) (by unfold I64;omega) hB3 h5F (by omega) fun w4 F4 hc4 hE4 hF4=>?_
   refine zag (by omega) ?_
   refine hfin w4 F4 (za6 hc3 hc4 hF1) ?_ fun c hc=>(hF4 c hc).elim (hF1 c) fun h=>.inr (by omega)
   rw [zdC,if_neg k1,if_neg k4,if_pos k5];exact hE4
 refine zai ?_
 refine br (fun k6=>?_) (fun k6=>?_)
 · refine zf7 (j:=1) hE3 zhi (.inr (.inl ⟨rfl,rfl,rfl⟩)) (by unfold I64;omega) hB3 h5F (by omega) fun w4 F4 hc4 hE4 hF4=>?_
   refine zag (by omega) ?_
   refine hfin w4 F4 (za6 hc3 hc4 hF1) ?_ fun c hc=>(hF4 c hc).elim (hF1 c) fun h=>.inr (by omega)
   rw [zdC,if_neg k1,if_neg k4,if_neg k5,if_pos k6];exact hE4
 refine zai ?_
 refine br (fun k7=>?_) (fun k7=>?_)
 · refine zf7 (j:=1) hE3 zhi (.inr (.inl ⟨rfl,rfl,rfl⟩)) (by unfold I64;omega) hB3 h5F (by omega) fun w4 F4 hc4 hE4 hF4=>?_
   refine zag (by omega) ?_
   refine hfin w4 F4 (za6 hc3 hc4 hF1) ?_ fun c hc=>(hF4 c hc).elim (hF1 c) fun h=>.inr (by omega)
   rw [zdC,if_neg k1,if_neg k4,if_neg k5,if_neg k6,if_pos k7];exact hE4
 have k8:x.kind=8:=by
   have h0:St0 c x→x.kind=8:=fun q=>by rcases q with q | q | q | q<;>(have:=q.1;omega)
   cases n with
   | zero=>exact h0 hxs.zero
   | succ n=>
     rcases hxs.succ with q | ⟨q,_⟩
     · exact h0 q
     omega
 refine NIL.mk rfl ?_
 refine zaa zaK ?_
 refine zcZ zdG hr2 ?_
 refine zgY (lo:=w2.heap.size) (hi:=w2.heap.size) (by unfold I64;omega) fun v26 o26=>?_
 refine zix hE2 o26 (Nat.le_refl _) (by omega) hO2 fun w6 F6 hc6 hE6 hF6=>?_
 refine zag (by omega) ?_
 refine hfin w6 F6 (za6 hc2 hc6 hF1) ?_ fun c hc=>(hF6 c hc).elim (hF1 c) fun h=>.inr (by omega)
 rw [zdC,if_neg k1,if_neg k4,if_neg k5,if_neg k6,if_neg k7,if_pos k8];exact hE6
theorem zfO (c:Scp) (n:Nat):zkA c n []:=by
 intro W w g bs c0 c1 c2 ve G L P I F v hE h hs hlen
 refine F45_call ?_
 unfold F45
 refine zaf u29 h ?_
 refine zaE 0 (fun k us w'=>us=[.int .i64 (k:Int)]∧w'=w) 0 (Nat.zero_le _) ⟨rfl,rfl⟩ ?_
 rintro k m u w1 hkm ⟨hu,rfl⟩
 simp only [List.map_cons,List.map_nil,List.cons.injEq,and_true] at hu
 rw [hu]
 refine zal ?_
 refine br (fun hlt=>by simp at hlt;omega) (fun hge=>?_)
 exact ⟨Chg.refl _ _,F,by rw [emL,List.append_nil];exact hE,fun c hc=>.inl hc⟩
theorem zg0 (c:Scp):∀ (n:Nat) (l:List DStmt),zkA c n l
 | 0,l=>zfk (n:=0) (l:=l) (fun m l h=>absurd h (by omega)) (zfO c)
 | n + 1, l => zfk (n := n + 1) (l := l) (fun m l h => by
     obtain rfl:m=n:=by omega
     exact zg0 c m l) (zfO c)
def F44 (a0:Value) (w:World) (R:VW):Prop:=
 oP (Instr.box 27 a0) w fun x1 w=>
 rF 27 x1 2 w fun x6=>
 rL 25 x6 w fun x7=>
 rN 25 3 x7 w fun x8=>
 LOOPI [3,9] [(Value.slice none 0 0),(iV 0)] w fun u3 w next3=>
 rC (u3 9) x8 w fun x10=>
 BR x10
 (rX 25 x7 (u3 9) w fun x11=>
 rL 32 x11 w fun x12=>
 oP (Instr.alloc 32 true (.tuple #[])) w fun x5 w=>
 oS 32 x5 x12 w fun w=>
 rF 32 x5 0 w fun x14=>
 rL 9 x14 w fun x15=>
 oP (Instr.buildSlice 24 1 #[(0,x15)]) w fun x16 w=>
 oP (Builtin.append_ #[24,24] 24 [(u3 3),x16].toArray) w fun x17 w=>
 rA (u3 9) (iV 1) w fun x18=>
 next3 [x17,x18] w)
 (R (u3 3) w)
def cfg44:Cfg:=⟨extL,[],[(3,523816,[3,9])],[],[],[],[]⟩
theorem F44_call {a0:Value} {w:World} {R:VW} (h:F44 a0 w R):cL 44 [a0] w R:=co (g:=cfg44) Tryz.func44 (by kernel_rfl) (by kernel_rfl) (by kernel_rfl) h
def F178 (a0 a1 a2:Value) (w:World) (R:VW):Prop:=
 cL 99 [a0,a1] w fun x7 w=>
 rD (Op.unary .not x7) w fun x8=>
 BR x8
 (rL 24 a2 w fun x9=>
 cL 179 [x9,a1] w fun x11 w=>
 oS 24 a2 x11 w fun w=>
 R (Value.tuple #[]) w)
 (R (Value.tuple #[]) w)
def cfg178:Cfg:=⟨extL,[],[],[],[],[],[]⟩
theorem F178_call {a0 a1 a2:Value} {w:World} {R:VW} (h:F178 a0 a1 a2 w R):cL 178 [a0,a1,a2] w R:=co (g:=cfg178) Tryz.func178 (by kernel_rfl) (by kernel_rfl) (by kernel_rfl) h
def F181 (a0 a1 a2 a3:Value) (w:World) (R:VW):Prop:=
 oP (Instr.box 56 a0) w fun x4 w=>
 JOIN [] (fun J10=>
 rF 56 x4 0 w fun x8=>
 rL 3 x8 w fun x9=>
 rB .eql 3 T0 U0 x9 (iV 1) w fun x11=>
 BR x11
 (rL 198 a1 w fun x12=>
 rF 27 a2 0 w fun x13=>
 rL 24 x13 w fun x14=>
 rF 56 x4 1 w fun x15=>
 rL 9 x15 w fun x16=>
 OPN tp (zdJ x12 [x14,x16]) w fun x17 w=>
 J10 [] w)
 (rB .eql 3 T0 U0 x9 (iV 6) w fun x19=>
 BR x19
 (rL 198 a1 w fun x21=>
 rF 27 a2 1 w fun x22=>
 rL 24 x22 w fun x23=>
 rF 56 x4 1 w fun x24=>
 rL 9 x24 w fun x25=>
 OPN tp (zdJ x21 [x23,x25]) w fun x26 w=>
 J10 [] w)
 (rB .eql 3 T0 U0 x9 (iV 7) w fun x20=>
 BR x20
 (rL 198 a1 w fun x21=>
 rF 27 a2 1 w fun x22=>
 rL 24 x22 w fun x23=>
 rF 56 x4 1 w fun x24=>
 rL 9 x24 w fun x25=>
 OPN tp (zdJ x21 [x23,x25]) w fun x26 w=>
 J10 [] w)
 (rB .eql 3 T0 U0 x9 (iV 4) w fun x28=>
 BR x28
 (rL 198 a1 w fun x30=>
 rL 24 a3 w fun x31=>
 rF 56 x4 1 w fun x32=>
 rL 9 x32 w fun x33=>
 OPN tp (zdJ x30 [x31,x33]) w fun x34 w=>
 J10 [] w)
 (rB .eql 3 T0 U0 x9 (iV 5) w fun x29=>
 BR x29
 (rL 198 a1 w fun x30=>
 rL 24 a3 w fun x31=>
 rF 56 x4 1 w fun x32=>
 rL 9 x32 w fun x33=>
 OPN tp (zdJ x30 [x31,x33]) w fun x34 w=>
 J10 [] w)
 (J10 [] w)))))) (fun u10 w=>
 rF 56 x4 2 w fun x35=>
 rL 53 x35 w fun x36=>
 cL 182 [x36] w fun x37 w=>
 rN 24 3 x37 w fun x38=>
 LOOPI [39] [(iV 0)] w fun u11 w next11=>
 rC (u11 39) x38 w fun x40=>
 BR x40
 (rX 24 x37 (u11 39) w fun x41=>
 rL 9 x41 w fun x42=>
 rL 198 a1 w fun x43=>
 rF 27 a2 0 w fun x44=>
 rL 24 x44 w fun x45=>
 OPN tp (zdJ x43 [x45,x42]) w fun x47 w=>
 rA (u11 39) (iV 1) w fun x48=>
 next11 [x48] w)
 (R (Value.bool true) w))
def cfg181:Cfg:=⟨extL,[(10,34359738112,[])],[(11,562400197607552,[39])],[],[],[],[]⟩
theorem F181_call {a0 a1 a2 a3:Value} {w:World} {R:VW} (h:F181 a0 a1 a2 a3 w R):cL 181 [a0,a1,a2,a3] w R:=co (g:=cfg181) Tryz.func181 (by kernel_rfl) (by kernel_rfl) (by kernel_rfl) h
def F180 (a0 a1:Value) (w:World) (R:VW):Prop:=
 rN 29 3 a0 w fun x8=>
 LOOPI [9] [(iV 0)] w fun u2 w next2=>
 rC (u2 9) x8 w fun x10=>
 BR x10
 (rX 29 a0 (u2 9) w fun x11=>
 rL 56 x11 w fun x12=>
 oP (Instr.alloc 56 true (.tuple #[])) w fun x6 w=>
 oS 56 x6 x12 w fun w=>
 rL 56 x6 w fun x14=>
 OPN tp (zdJ a1 [x14]) w fun x15 w=>
 rD (Op.unary .not x15) w fun x16=>
 BR x16
 (R (Value.bool false) w)
 (rF 56 x6 3 w fun x18=>
 rL 29 x18 w fun x19=>
 cL 180 [x19,a1] w fun x21 w=>
 rD (Op.unary .not x21) w fun x22=>
 BR x22
 (R (Value.bool false) w)
 (rF 56 x6 4 w fun x25=>
 rL 29 x25 w fun x26=>
 cL 180 [x26,a1] w fun x28 w=>
 rD (Op.unary .not x28) w fun x29=>
 BR x29
 (R (Value.bool false) w)
 (rA (u2 9) (iV 1) w fun x31=>
 next2 [x31] w))))
 (R (Value.bool true) w)
def cfg180:Cfg:=⟨extL,[],[(2,4294966864,[9])],[],[],[],[]⟩
theorem F180_call {a0 a1:Value} {w:World} {R:VW} (h:F180 a0 a1 w R):cL 180 [a0,a1] w R:=co (g:=cfg180) Tryz.func180 (by kernel_rfl) (by kernel_rfl) (by kernel_rfl) h
def F98 (a0:Value) (w:World) (R:VW):Prop:=
 oP (Instr.box 27 a0) w fun x1 w=>
 oP (Instr.alloc 24 true (.tuple #[])) w fun x3 w=>
 rL 27 x1 w fun x8=>
 cL 44 [x8] w fun x9 w=>
 oP (Instr.alloc 24 true (.tuple #[])) w fun x4 w=>
 oS 24 x4 x9 w fun w=>
 rD (Instr.makeFunc (Go.Fn.func 178) [].toArray [x3].toArray) w fun x10=>
 oP (Instr.alloc 198 true (.tuple #[])) w fun x5 w=>
 oS 198 x5 x10 w fun w=>
 rF 27 x1 2 w fun x11=>
 rL 25 x11 w fun x12=>
 rN 25 3 x12 w fun x13=>
 LOOPI [14] [(iV 0)] w fun u5 w next5=>
 rC (u5 14) x13 w fun x15=>
 BR x15
 (rX 25 x12 (u5 14) w fun x16=>
 rL 32 x16 w fun x17=>
 oP (Instr.alloc 32 true (.tuple #[])) w fun x7 w=>
 oS 32 x7 x17 w fun w=>
 rF 32 x7 1 w fun x18=>
 rL 29 x18 w fun x19=>
 rD (Instr.makeFunc (Go.Fn.func 181) [].toArray [x5,x1,x4].toArray) w fun x20=>
 cL 180 [x19,x20] w fun x21 w=>
 rA (u5 14) (iV 1) w fun x22=>
 next5 [x22] w)
 (rL 24 x3 w fun x23=>
 R x23 w)
def cfg98:Cfg:=⟨extL,[],[(5,8372352,[14])],[],[],[],[]⟩
theorem F98_call {a0:Value} {w:World} {R:VW} (h:F98 a0 w R):cL 98 [a0] w R:=co (g:=cfg98) Tryz.func98 (by kernel_rfl) (by kernel_rfl) (by kernel_rfl) h
def F96 (a0:Value) (w:World) (R:VW):Prop:=
 oP (Instr.box 27 a0) w fun x1 w=>
 rF 27 x1 0 w fun x6=>
 rL 24 x6 w fun x7=>
 cL 175 [x7,(iV 6)] w fun x8 w=>
 rD (Op.unary .not x8) w fun x9=>
 BR x9
 (R (Value.bool false) w)
 (rF 27 x1 1 w fun x11=>
 rL 24 x11 w fun x12=>
 cL 175 [x12,(iV 6)] w fun x13 w=>
 rD (Op.unary .not x13) w fun x14=>
 BR x14
 (R (Value.bool false) w)
 (rF 27 x1 2 w fun x17=>
 rL 25 x17 w fun x18=>
 rN 25 3 x18 w fun x19=>
 rB .gtr 3 T0 U0 x19 (iV 8) w fun x20=>
 BR x20
 (R (Value.bool false) w)
 (rF 27 x1 2 w fun x22=>
 rL 25 x22 w fun x23=>
 rN 25 3 x23 w fun x24=>
 LOOPI [25] [(iV 0)] w fun u4 w next4=>
 rC (u4 25) x24 w fun x26=>
 BR x26
 (rX 25 x23 (u4 25) w fun x27=>
 rL 32 x27 w fun x28=>
 oP (Instr.alloc 32 true (.tuple #[])) w fun x4 w=>
 oS 32 x4 x28 w fun w=>
 oP (Instr.alloc 3 true (.tuple #[])) w fun x5 w=>
 oS 3 x5 (iV 60) w fun w=>
 rF 32 x4 0 w fun x29=>
 rL 9 x29 w fun x30=>
 cL 176 [x30] w fun x31 w=>
 rD (Op.unary .not x31) w fun x32=>
 BR x32
 (R (Value.bool false) w)
 (rF 32 x4 1 w fun x34=>
 rL 29 x34 w fun x35=>
 cL 177 [x35,(iV 6),x5] w fun x36 w=>
 rD (Op.unary .not x36) w fun x37=>
 BR x37
 (R (Value.bool false) w)
 (rA (u4 25) (iV 1) w fun x39=>
 next4 [x39] w)))
 (R (Value.bool true) w))))
def cfg96:Cfg:=⟨extL,[],[(4,1099478073396,[25])],[],[],[],[]⟩
theorem F96_call {a0:Value} {w:World} {R:VW} (h:F96 a0 w R):cL 96 [a0] w R:=co (g:=cfg96) Tryz.func96 (by kernel_rfl) (by kernel_rfl) (by kernel_rfl) h
def F42 (a0:Value) (w:World) (R:VW):Prop:=
 oP (Instr.box 27 a0) w fun x1 w=>
 rL 27 x1 w fun x4=>
 cL 96 [x4] w fun x5 w=>
 rD (Op.unary .not x5) w fun x6=>
 BR x6
 (R (iV 1) w)
 (rL 27 x1 w fun x7=>
 cL 44 [x7] w fun x8 w=>
 rF 27 x1 0 w fun x9=>
 rL 24 x9 w fun x10=>
 cL 97 [x10] w fun x11 w=>
 BR x11
 (R (iV 2) w)
 (rF 27 x1 1 w fun x13=>
 rL 24 x13 w fun x14=>
 cL 97 [x14] w fun x15 w=>
 BR x15
 (R (iV 2) w)
 (cL 97 [x8] w fun x19 w=>
 BR x19
 (R (iV 2) w)
 (rL 27 x1 w fun x21=>
 cL 98 [x21] w fun x22 w=>
 rN 24 3 x22 w fun x23=>
 rB .gtr 3 T0 U0 x23 (iV 0) w fun x24=>
 BR x24
 (R (iV 3) w)
 (cL 99 [x8,(Value.string (ByteArray.mk #[109,97,105,110]))] w fun x26 w=>
 rD (Op.unary .not x26) w fun x27=>
 BR x27
 (R (iV 4) w)
 (R (iV 0) w))))))
def cfg42:Cfg:=⟨extL,[],[],[],[],[],[]⟩
theorem F42_call {a0:Value} {w:World} {R:VW} (h:F42 a0 w R):cL 42 [a0] w R:=co (g:=cfg42) Tryz.func42 (by kernel_rfl) (by kernel_rfl) (by kernel_rfl) h
theorem zg1 {c:Scp} (hp:zr5 c):∀ (n:Nat) (l:List DStmt),zr6 c n l
 | 0,l=>zfi (n:=0) (l:=l) hp (fun m l h=>absurd h (by omega))
 | n + 1, l => zfi (n := n + 1) (l := l) hp fun m l h => by
     obtain rfl:m=n:=by omega
     exact zg1 hp m l
theorem zd1 {w W:World} {v:Value} {p:DProg} (h:Is W v p) (e:Ext W w) (hn:p.procs.length≤1000):CALL Tryz.prog 44 [v] w fun r w'=>Ext w w'∧Own w.heap.size w' r (p.procs.map DProc.name):=by
 refine F44_call ?_
 unfold F44
 refine zdE h e fun w1 hx1 hA=>?_
 have hs1:=hx1.size
 refine zaa ziI ?_
 refine zab zrh (zdj hA) (Ext.refl _) fun v7 h7=>?_
 refine zaf u25 h7 ?_
 refine zaE p.procs.length (fun k us w'=>∃ v hi,us=[v,.int .i64 (k:Int)]∧k≤p.procs.length∧Ext w1 w'∧RowI w1.heap.size hi 9 w' v ((p.procs.take k).map DProc.name)∧hi≤w'.heap.size∧w1.heap.size≤hi) 0 (Nat.zero_le _)
   ⟨_,w1.heap.size,rfl,Nat.zero_le _,Ext.refl _,zb2 _ _ _ _,Nat.le_refl _,Nat.le_refl _⟩ ?_
 rintro k m u w3 hkm ⟨v3,hi,hu,hkl,hx3,r3,hhi,hlo⟩
 obtain ⟨hu0,hu1⟩:=zey hu
 rw [hu0,hu1]
 refine zal ?_
 refine br (fun hlt=>?_) (fun hge=>?_)
 · have hk:k<p.procs.length:=by omega
   refine zad u25 zkQ h7 hk fun b11 o11 hA11=>?_
   refine zab zkQ hA11 hx3 fun v12 h12=>?_
   refine zbB zq4 rfl zkQ rfl h12 hx3 fun w4 hx4 hA4 hV4=>?_
   have hs4:=hx4.size
   refine zaa zpw ?_
   refine zaA ty9 (zhz hA4) (Ext.refl _) fun hS=>?_
   refine zdt (α:=ByteArray) (lo2:=w4.heap.size) (hi2:=w4.heap.size) u24 ty9 z9 zc9 (by decide) (r3.ext hx4) (by omega) (zox hS) (by omega) (by omega) (by rw [zak,List.length_map,List.length_take];omega) (by rw [List.length_map,List.length_take];omega) fun v21 w5 hc5 r5=>?_
   have hs5:=hc5.size
   refine zag (by omega) ?_
   refine ⟨m-1,by omega,k+1,by omega,v21,w5.heap.size,rfl,by omega,Ext.chgI (hx3.trans hx4) hc5 (by omega),?_,Nat.le_refl _,by omega⟩
   rw [List.take_succ_eq_append_getElem hk,List.map_append]
   exact r5
 refine ⟨hx1.trans hx3,?_⟩
 rw [List.take_of_length_le (by omega)] at r3
 exact r3.own.own.mono (by omega)
theorem zqR {w W:World} {vl vp:Value} {l:List ByteArray} {s:ByteArray} (h:Is W vl l) (e:Ext W w) (hm:s∈l):CALL Tryz.prog 178 [vl,.string s,vp] w fun r w'=>Ext w w'∧r=.tuple #[]:=by
 refine F178_call ?_
 unfold F178
 refine (zaV h e).mono ?_
 rintro _ w1 ⟨hx1,rfl⟩
 refine zbw ?_
 exact br (fun hn=>absurd hm hn) (fun _=>⟨hx1,rfl⟩)
theorem zpZ:zbt Tryz.prog 24=some [.slice none 0 0]:=by kernel_rfl
theorem zr7:zcC Tryz.prog 178=true:=by kernel_rfl
theorem zr8:zcC Tryz.prog 181=true:=by kernel_rfl
theorem zn6:tyI Tryz.prog 198=some (1,8,false):=by kernel_rfl
theorem zr9:zbt Tryz.prog 198=some [.nilFunc]:=by kernel_rfl
structure KnS (p:DProg) (N:List ByteArray) (x:DStmt):Prop where
 k1:x.kind=1→x.name∈p.globals
 k6:x.kind=6∨x.kind=7→x.name∈p.locks
 k4:x.kind=4∨x.kind=5→x.name∈N
 rd:∀ s∈zbn x.term,s∈p.globals
theorem zrJ {w W Wp Wn:World} {v:Value} {x:DStmt} {p:DProg} {N:List ByteArray} {g5 g1 g4:Nat} {vp:Value} (h:Is W v x) (e:Ext W w) (hB:Blk g5 198 w [.func (.func 178) #[] #[vp]])
   (hP:At Wp g1 0 p) (eP:Ext Wp w) {vn:Value} (hBn:Blk g4 24 w [vn]) (hN:Is Wn vn N) (eN:Ext Wn w) (hk:KnS p N x) :
   CALL Tryz.prog 181 [v,.pointer (some ⟨g5,0,none⟩),.pointer (some ⟨g1,0,none⟩),.pointer (some ⟨g4,0,none⟩)] w fun r w'=>Ext w w'∧r=.bool true:=by
 refine F181_call ?_
 unfold F181
 refine zdE h e fun w1 hx1 hA=>?_
 have hlook:∀ {w2 W2:World} {vl:Value} {l:List ByteArray} {s:ByteArray} {K:Value→World→Prop},Is W2 vl l→Ext W2 w2→s∈l→(∀ r w3,Ext w2 w3→K r w3)→OPN Tryz.prog (zdJ (.func (.func 178) #[] #[vp]) [vl,.string s]) w2 K:=fun {w2 W2 vl l s K} h2 e2 hm k=>
   zlf (args:=[vl,.string s]) (caps:=[vp]) zr7 ((zqR h2 e2 hm).mono fun r w3 hh=>k r w3 hh.1)
 refine JOIN.mk (fun us w'=>Ext w1 w') ?_ ?_
 · refine zaa ziJ ?_
   refine zac ty3 (zdh hA) (Ext.refl _) fun hI=>?_
   refine zai ?_
   refine br (fun k1=>?_) (fun k1=>?_)
   · refine zas zn6 (hB.ext hx1) rfl ?_
     refine zaa ziH ?_
     refine zab zdQ (zdi hP) (eP.trans hx1) fun v14 h14=>?_
     refine zaa zc8 ?_
     refine zaA ty9 (zbg hA) (Ext.refl _) fun hS=>?_
     exact hlook h14 (eP.trans hx1) (hk.k1 k1) fun r w3 hx=>hx
   refine zai ?_
   refine zpV (Q:=x.kind=6∨x.kind=7) .inl (fun hQ=>?_) (fun key h6=>?_)
   · refine zas zn6 (hB.ext hx1) rfl ?_
     refine zaa zkP ?_
     refine zab zdQ (zej hP) (eP.trans hx1) fun v14 h14=>?_
     refine zaa zc8 ?_
     refine zaA ty9 (zbg hA) (Ext.refl _) fun hS=>?_
     exact hlook h14 (eP.trans hx1) (hk.k6 hQ) fun r w3 hx=>hx
   refine zai ?_
   refine br (fun h7=>key (.inr h7)) (fun h7=>?_)
   refine zai ?_
   refine zpV (Q:=x.kind=4∨x.kind=5) .inl (fun hQ=>?_) (fun key2 h4=>?_)
   · refine zas zn6 (hB.ext hx1) rfl ?_
     refine zas zdQ (hBn.ext hx1) rfl ?_
     refine zaa zc8 ?_
     refine zaA ty9 (zbg hA) (Ext.refl _) fun hS=>?_
     exact hlook hN (eN.trans hx1) (hk.k4 hQ) fun r w3 hx=>hx
   refine zai ?_
   exact br (fun h5=>key2 (.inr h5)) fun h5=>Ext.refl _
 rintro u10 w2 hx2
 refine zaa zdR ?_
 refine zab zcn (zbA hA) hx2 fun v36 h36=>?_
 refine (zb3 h36 hx2).mono ?_
 rintro v37 w3 ⟨hx3,h37⟩
 refine zaf u24 h37 ?_
 refine zaE (zbn x.term).length (fun k us w'=>us=[.int .i64 (k:Int)]∧Ext w3 w'∧k≤(zbn x.term).length) 0 (Nat.zero_le _) ⟨rfl,Ext.refl _,Nat.zero_le _⟩ ?_
 rintro k m u w4 hkm ⟨hu,hx4,hkl⟩
 simp only [List.map_cons,List.map_nil,List.cons.injEq,and_true] at hu
 rw [hu]
 have hln:=zan h37
 have hx14:=hx1.trans (hx2.trans (hx3.trans hx4))
 refine zal ?_
 refine br (fun hlt=>?_) (fun hge=>⟨hx14,rfl⟩)
 have hk':k<(zbn x.term).length:=by omega
 refine zad u24 ty9 h37 hk' fun b41 o41 hA41=>?_
 refine zaA ty9 hA41 hx4 fun hS=>?_
 refine zas zn6 (hB.ext hx14) rfl ?_
 refine zaa ziH ?_
 refine zab zdQ (zdi hP) (eP.trans hx14) fun v45 h45=>?_
 refine hlook h45 (eP.trans hx14) (hk.rd _ (List.getElem_mem hk')) fun r w5 hx5=>?_
 refine zag (by omega) ?_
 exact ⟨m-1,by omega,k+1,by omega,rfl,hx4.trans hx5,by omega⟩
def zqS (c:Scp) (fv:Value) (w0:World) (n:Nat) (l:List DStmt):Prop:=∀ {w W:World} {v:Value},Is W v l→Ext W w→Ext w0 w→(∀ x∈l,StR c n x)→CALL Tryz.prog 180 [v,fv] w fun r w'=>Ext w w'∧r=.bool true
theorem zhH {c:Scp} {fv:Value} {w0:World} {n:Nat} {l:List DStmt} (hu:∀ {w W:World} {v:Value} {x:DStmt} {m:Nat},Is W v x→Ext W w→Ext w0 w→StR c m x→OPN Tryz.prog (zdJ fv [v]) w fun r w'=>Ext w w'∧r=.bool true)
   (ih:∀ m l,m+1=n→zqS c fv w0 m l) (inil:∀ m,zqS c fv w0 m []):zqS c fv w0 n l:=by
 intro w W v h e e0 hs
 have hln:=zan h
 refine F180_call ?_
 unfold F180
 refine zaf u29 h ?_
 refine zaE l.length (fun k us w'=>us=[.int .i64 (k:Int)]∧Ext w w'∧k≤l.length) 0 (Nat.zero_le _) ⟨rfl,Ext.refl w,Nat.zero_le _⟩ ?_
 rintro k m u w1 hkm ⟨hu1,hx1,hkl⟩
 simp only [List.map_cons,List.map_nil,List.cons.injEq,and_true] at hu1
 rw [hu1]
 refine zal ?_
 refine br (fun hlt=>?_) (fun hge=>⟨hx1,rfl⟩)
 have hk:k<l.length:=by omega
 obtain ⟨x,hx⟩:∃ x,x=l[k]:=⟨_,rfl⟩
 have hxs:StR c n x:=by rw [hx];exact hs _ (List.getElem_mem hk)
 have hkid:∃ q,(∀ y∈x.body,StR c q y)∧(∀ y∈x.els,StR c q y)∧zqS c fv w0 q x.body∧zqS c fv w0 q x.els:=by
   have h0:St0 c x→x.body=[]∧x.els=[]:=fun h=>by rcases h with q | q | q | q<;>exact ⟨q.2.2.2.1,q.2.2.2.2⟩
   cases n with
   | zero=>
     obtain ⟨h1,h2⟩:=h0 hxs.zero
     rw [h1,h2]
     exact ⟨0,by simp,by simp,inil 0,inil 0⟩
   | succ n=>
     rcases hxs.succ with q | ⟨_,_,_,h4,h5⟩
     · obtain ⟨h1,h2⟩:=h0 q
       rw [h1,h2]
       exact ⟨0,by simp,by simp,inil 0,inil 0⟩
     exact ⟨n,h4,h5,ih n _ rfl,ih n _ rfl⟩
 obtain ⟨q,hqb,hqe,ihb,ihe⟩:=hkid
 refine zad u29 zc7 h hk fun b11 o11 hA11=>?_
 rw [←hx] at hA11
 refine zab zc7 hA11 (e.trans hx1) fun v12 h12=>?_
 refine zbB zoj rfl zc7 rfl h12 (e.trans hx1) fun w2 hx2 hA6 hV6=>?_
 refine zab zc7 hA6 (Ext.refl _) fun v14 h14=>?_
 refine zfU ?_ (hu h14 (Ext.refl _) (e0.trans (hx1.trans hx2)) hxs)
 rintro _ w3 ⟨hx3,rfl⟩
 refine zaO ?_
 refine zbQ (fun hc=>by simp at hc) (fun _=>?_)
 refine zaa zer ?_
 refine zab zfV (zb0 hA6) hx3 fun v19 h19=>?_
 refine (ihb h19 hx3 (e0.trans (hx1.trans (hx2.trans hx3))) hqb).mono ?_
 rintro _ w4 ⟨hx4,rfl⟩
 refine zaO ?_
 refine zbQ (fun hc=>by simp at hc) (fun _=>?_)
 have hx24:=hx3.trans hx4
 refine zaa zdS ?_
 refine zab zfV (zbL hA6) hx24 fun v26 h26=>?_
 refine (ihe h26 hx24 (e0.trans (hx1.trans (hx2.trans hx24))) hqe).mono ?_
 rintro _ w5 ⟨hx5,rfl⟩
 refine zaO ?_
 refine zbQ (fun hc=>by simp at hc) (fun _=>?_)
 refine zag (by omega) ?_
 exact ⟨m-1,by omega,k+1,by omega,rfl,hx1.trans (hx2.trans (hx24.trans hx5)),by omega⟩
theorem zjz {c:Scp} {fv:Value} {w0:World} (m:Nat):zqS c fv w0 m []:=by
 intro w W v h e e0 hs
 refine F180_call ?_
 unfold F180
 refine zaf u29 h ?_
 refine zaE 0 (fun k us w'=>us=[.int .i64 (k:Int)]∧Ext w w'∧k≤0) 0 (Nat.zero_le _) ⟨rfl,Ext.refl w,Nat.zero_le _⟩ ?_
 rintro k m u w1 hkm ⟨hu1,hx1,hkl⟩
 simp only [List.map_cons,List.map_nil,List.cons.injEq,and_true] at hu1
 rw [hu1]
 refine zal ?_
 exact br (fun hlt=>by simp at hlt;omega) (fun hge=>⟨hx1,rfl⟩)
theorem zlx {c:Scp} {fv:Value} {w0:World} (hu:∀ {w W:World} {v:Value} {x:DStmt} {m:Nat},Is W v x→Ext W w→Ext w0 w→StR c m x→OPN Tryz.prog (zdJ fv [v]) w fun r w'=>Ext w w'∧r=.bool true):∀ (n:Nat) (l:List DStmt),zqS c fv w0 n l
 | 0,l=>zhH (n:=0) (l:=l) hu (fun m l h=>absurd h (by omega)) zjz
 | n + 1, l => zhH (n := n + 1) (l := l) hu (fun m l h => by
     obtain rfl:m=n:=by omega
     exact zlx hu m l) zjz
theorem StR.kn {c:Scp} {n:Nat} {x:DStmt} {p:DProg} {N:List ByteArray} (hg:p.globals=c.gl) (hl:p.locks=c.lk) (hN:∀ s∈c.pr,s∈N) (h:StR c n x):KnS p N x:=by
 have r0:zbn zaM=[]:=by decide
 have h0:St0 c x→KnS p N x:=fun q=>by
   rcases q with q | q | q | q
   · exact ⟨fun _=>hg▸q.2.1,fun _=>by have:=q.1;omega,fun _=>by have:=q.1;omega,fun s hs=>hg▸q.2.2.1.2.1 s hs⟩
   · exact ⟨fun _=>by have:=q.1;omega,fun _=>by have:=q.1;omega,fun _=>hN _ q.2.1,fun s hs=>by rw [q.2.2.1,r0] at hs;cases hs⟩
   · exact ⟨fun _=>by have:=q.1;omega,fun _=>hl▸q.2.1,fun _=>by have:=q.1;omega,fun s hs=>by rw [q.2.2.1,r0] at hs;cases hs⟩
   exact ⟨fun _=>by have:=q.1;omega,fun _=>by have:=q.1;omega,fun _=>by have:=q.1;omega,fun s hs=>by rw [q.2.2.1,r0] at hs;cases hs⟩
 cases n with
 | zero=>exact h0 h.zero
 | succ n=>
   rcases h.succ with q | ⟨h1,h2,h3,_,_⟩
   · exact h0 q
   exact ⟨fun _=>by omega,fun _=>by omega,fun _=>by omega,fun s hs=>hg▸h3.2.1 s hs⟩
theorem zjA {w W:World} {v:Value} {p:DProg} (h:Is W v p) (e:Ext W w) (hp:ProgR p):CALL Tryz.prog 98 [v] w fun r w'=>Ext w w'∧r=.slice none 0 0:=by
 obtain ⟨f1,f2,f3,f4⟩:=hp.facts
 refine F98_call ?_
 unfold F98
 refine zdE h e fun w1 hx1 hA=>?_
 refine zcm zpZ fun w2 hx2 hB2=>?_
 refine zab zow hA hx2 fun v8 h8=>?_
 refine (zd1 h8 hx2 (by omega)).mono ?_
 rintro v9 w3 ⟨hx3,o9⟩
 obtain ⟨F9,M9,_⟩:=o9
 have h9:=M9.is
 have one9:v9.oneCell'=true:=ziv (lo:=0) (hi:=w3.heap.size) rfl ⟨F9,M9,fun b hb=>⟨Nat.zero_le _,M9.lt b hb⟩⟩
 refine zfA zpZ zdQ one9 fun w4 hx4 hB4=>?_
 refine zaF (v:=.func (.func 178) #[] #[.pointer (some ⟨w1.heap.size,0,none⟩)]) (fun w' _=>by simp [Instr.makeFunc]) ?_
 refine zfA zr9 zn6 rfl fun w5 hx5 hB5=>?_
 have hx15:=hx2.trans (hx3.trans (hx4.trans hx5))
 refine zaa ziI ?_
 refine zab zrh (zdj hA) hx15 fun v12 h12=>?_
 refine zaf u25 h12 ?_
 refine zaE p.procs.length (fun k us w'=>us=[.int .i64 (k:Int)]∧Ext w5 w'∧k≤p.procs.length) 0 (Nat.zero_le _) ⟨rfl,Ext.refl _,Nat.zero_le _⟩ ?_
 rintro k m u w6 hkm ⟨hu,hx6,hkl⟩
 simp only [List.map_cons,List.map_nil,List.cons.injEq,and_true] at hu
 rw [hu]
 have hx16:=hx15.trans hx6
 refine zal ?_
 refine br (fun hlt=>?_) (fun hge=>?_)
 · have hk:k<p.procs.length:=by omega
   refine zad u25 zkQ h12 hk fun b16 o16 hA16=>?_
   refine zab zkQ hA16 hx16 fun v17 h17=>?_
   refine zbB zq4 rfl zkQ rfl h17 hx16 fun w7 hx7 hA7 hV7=>?_
   refine zaa zmF ?_
   refine zab zfV (zhA hA7) (Ext.refl _) fun v19 h19=>?_
   refine zaF (v:=.func (.func 181) #[] #[.pointer (some ⟨w4.heap.size,0,none⟩),.pointer (some ⟨w.heap.size,0,none⟩),.pointer (some ⟨w3.heap.size,0,none⟩)]) (fun w' _=>by simp [Instr.makeFunc]) ?_
   have hb:=hp.b _ (List.getElem_mem hk)
   refine (zlx (c:=⟨p.globals,p.locks,(p.procs.map DProc.name).drop 1⟩) (w0:=w7) (fun {w W v x m} hi ei e0 hs=>?_) 2 _ h19 (Ext.refl _) (Ext.refl _) hb.1).mono ?_
   · refine zlf (args:=[v]) (caps:=[_,_,_]) zr8 ?_
     exact zrJ hi ei (hB5.ext (hx6.trans (hx7.trans e0))) hA (hx16.trans (hx7.trans e0)) (hB4.ext (hx5.trans (hx6.trans (hx7.trans e0)))) h9 (hx4.trans<|hx5.trans (hx6.trans (hx7.trans e0))) (hs.kn rfl rfl fun s hs=>List.mem_of_mem_drop hs)
   rintro _ w8 ⟨hx8,rfl⟩
   refine zag (by omega) ?_
   exact ⟨m-1,by omega,k+1,by omega,rfl,hx6.trans (hx7.trans hx8),by omega⟩
 refine zas zdQ (hB2.ext (hx3.trans (hx4.trans (hx5.trans hx6)))) rfl ?_
 exact ⟨hx1.trans hx16,rfl⟩
theorem ziy {w W:World} {v:Value} {p:DProg} (h:Is W v p) (e:Ext W w) (hp:ProgR p):CALL Tryz.prog 96 [v] w fun r w'=>Ext w w'∧r=.bool true:=by
 obtain ⟨f1,f2,f3,f4⟩:=hp.facts
 refine F96_call ?_
 unfold F96
 refine zdE h e fun w1 hx1 hA=>?_
 refine zaa ziH ?_
 refine zab zdQ (zdi hA) (Ext.refl _) fun v7 h7=>?_
 refine (zcG h7 (Ext.refl _)).mono ?_
 rintro _ w2 ⟨hx2,rfl⟩
 refine zaO ?_
 refine zbQ (fun hc=>by rcases hp.g with e | e<;>(rw [e] at hc;exact absurd hc (by decide))) (fun _=>?_)
 refine zaa zkP ?_
 refine zab zdQ (zej hA) hx2 fun v12 h12=>?_
 refine (zcG h12 hx2).mono ?_
 rintro _ w3 ⟨hx3,rfl⟩
 refine zaO ?_
 refine zbQ (fun hc=>by rcases hp.l with e | e | e<;>(rw [e] at hc;exact absurd hc (by decide))) (fun _=>?_)
 have hx13:=hx2.trans hx3
 refine zaa ziI ?_
 refine zab zrh (zdj hA) hx13 fun v18 h18=>?_
 refine zaf u25 h18 ?_
 refine zdP ?_
 refine br (fun hc=>by omega) (fun _=>?_)
 refine zaa ziI ?_
 refine zab zrh (zdj hA) hx13 fun v23 h23=>?_
 refine zaf u25 h23 ?_
 refine zaE p.procs.length (fun k us w'=>us=[.int .i64 (k:Int)]∧Ext w1 w'∧k≤p.procs.length) 0 (Nat.zero_le _) ⟨rfl,hx13,Nat.zero_le _⟩ ?_
 rintro k m u w4 hkm ⟨hu,hx4,hkl⟩
 simp only [List.map_cons,List.map_nil,List.cons.injEq,and_true] at hu
 rw [hu]
 refine zal ?_
 refine br (fun hlt=>?_) (fun hge=>⟨hx1.trans hx4,rfl⟩)
 have hk:k<p.procs.length:=by omega
 have hkm':p.procs[k]∈p.procs:=List.getElem_mem hk
 refine zad u25 zkQ h23 hk fun b27 o27 hA27=>?_
 refine zab zkQ hA27 hx4 fun v28 h28=>?_
 refine zbB zq4 rfl zkQ rfl h28 hx4 fun w5 hx5 hA5 hV5=>?_
 have hs4:=hx4.size
 have hs5:=hx5.size
 refine zfA (u:=.int .i64 60) zlI ty3 rfl fun w6 hx6 hB6=>?_
 have hs6:=hx6.size
 refine zaa zpw ?_
 refine zaA ty9 (zhz hA5) hx6 fun hS=>?_
 refine (za5 (w:=w6)).mono ?_
 rintro _ w7 ⟨hx7,rfl⟩
 refine zaO ?_
 refine zbQ (fun hc=>by rw [f2 _ (List.mem_map.2 ⟨_,hkm',rfl⟩)] at hc;cases hc) (fun _=>?_)
 refine zaa zmF ?_
 refine zab zfV (zhA hA5) (hx6.trans hx7) fun v35 h35=>?_
 have hb:=hp.b _ hkm'
 refine (zg1 ⟨hp.gn,hp.ln,fun x hx=>f2 x (List.mem_of_mem_drop hx)⟩ 2 _ (r:=60) h35 (hx6.trans hx7) hb.1 (by omega) (by omega) (hB6.ext hx7) (Nat.le_refl _) (by have:=hb.2;omega) (by omega)).mono ?_
 rintro _ w8 ⟨hc8,rfl,-⟩
 refine zaO ?_
 refine zbQ (fun hc=>by cases hc) (fun _=>?_)
 refine zag (by omega) ?_
 exact ⟨m-1,by omega,k+1,by omega,rfl,((hx4.trans hx5).trans (hx6.trans hx7)).chgI hc8 (by omega),by omega⟩
theorem zfT {w W:World} {v:Value} {p:DProg} (h:Is W v p) (e:Ext W w) (hp:ProgR p):CALL Tryz.prog 42 [v] w fun r w'=>Ext w w'∧r=.int .i64 0:=by
 obtain ⟨f1,f2,f3,f4⟩:=hp.facts
 refine F42_call ?_
 unfold F42
 refine zdE h e fun w1 hx1 hA=>?_
 refine zab zow hA (Ext.refl _) fun v4 h4=>?_
 refine (ziy h4 (Ext.refl _) hp).mono ?_
 rintro _ w2 ⟨hx2,rfl⟩
 refine zaO ?_
 refine zbQ (fun hc=>by cases hc) (fun _=>?_)
 refine zab zow hA hx2 fun v7 h7=>?_
 refine (zd1 h7 hx2 (by omega)).mono ?_
 rintro v8 w3 ⟨hx3,o8⟩
 have hx13:=hx2.trans hx3
 refine zaa ziH ?_
 refine zab zdQ (zdi hA) hx13 fun v10 h10=>?_
 refine (zbV h10 hx13).mono ?_
 rintro _ w4 ⟨hx4,rfl⟩
 refine br (fun hc=>by rcases hp.g with e | e<;>(rw [e] at hc;exact absurd (by decide) hc)) (fun _=>?_)
 have hx14:=hx13.trans hx4
 refine zaa zkP ?_
 refine zab zdQ (zej hA) hx14 fun v14 h14=>?_
 refine (zbV h14 hx14).mono ?_
 rintro _ w5 ⟨hx5,rfl⟩
 refine br (fun hc=>by rcases hp.l with e | e | e<;>(rw [e] at hc;exact absurd (by decide) hc)) (fun _=>?_)
 refine (zbV o8.is (hx4.trans hx5)).mono ?_
 rintro _ w6 ⟨hx6,rfl⟩
 refine br (fun hc=>absurd f3 hc) (fun _=>?_)
 have hx16:=hx14.trans (hx5.trans hx6)
 refine zab zow hA hx16 fun v21 h21=>?_
 refine (zjA h21 hx16 hp).mono ?_
 rintro _ w7 ⟨hx7,rfl⟩
 refine zaf (α:=ByteArray) (l:=[]) u24 (zpv (w:=w7) rfl) ?_
 refine zdP ?_
 refine br (fun hc=>by simp at hc) (fun _=>?_)
 refine (zaV o8.is (hx4.trans (hx5.trans (hx6.trans hx7)))).mono ?_
 rintro _ w8 ⟨hx8,rfl⟩
 refine zbw ?_
 exact br (fun hc=>absurd f4 hc) fun _=>⟨hx1.trans (hx16.trans (hx7.trans hx8)),rfl⟩
end Go.Proofs.YtcnglfeoglgebaaGreat
