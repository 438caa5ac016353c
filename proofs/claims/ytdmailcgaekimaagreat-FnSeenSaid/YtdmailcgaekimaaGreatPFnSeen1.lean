/-
  Parts of the proof, put together by program.
-/
import Derived.Calls
import Derived.Orders
import Derived.Below
import Derived.Laws.Sem
import Derived.Deep.MidRow
import Derived.Laws.OwnMore
import Derived.Laws.Slices
import Derived.Laws.Entries
import Derived.Laws.Strings
import Derived.Laws.BitsLemmas
import Derived.Laws.Cover3
import Derived.IntWalk
import Derived.Laws.StructEq
import GoSem.ClaimChange
import Derived.ChangeArms
import Derived.WideShapes
import Derived.Test.YtdmailcgaekimaaGreatProg
import Derived.KernelRfl
import Derived.Laws.Tables
import Derived.Laws.BytesArg
import Derived.Laws.Strings2
import Derived.Shelf.SlSortCmp.InsertionK
import Derived.Shelf.SlSortCmp.NoneTotal
import Derived.Ground.SlsfProg
import Derived.Test.YtdmailcgaekimaaGreatRows
import Derived.ProofKit
import Derived.JoinedOf
import Derived.OpenShut
import Derived.ShutString
import Derived.ChangeOld
set_option linter.unusedVariables false
set_option linter.unusedSimpArgs false
set_option linter.unusedSectionVars false
namespace Go.Sh
open Go.RowKit (Below)
abbrev Env:=Nat→Value
abbrev Ext (w w':World):Prop:=Below w.heap.size w w'
theorem Ext.refl (w:World):Ext w w:=Below.refl _ _
theorem Ext.trans {a b c:World} (h:Ext a b) (k:Ext b c):Ext a c:=Below.trans h (Below.mono k h.size)
def ev (s:Env):Operand→Value
 | .tmp t=>s t
 | .const v=>v
 | .global g=>.pointer (some ⟨g,0,none⟩)
 | .func f=>.func (.func f) #[] #[]
def upd (s:Env) (d:Nat) (v:Value):Env:=fun t=>bif Nat.beq t d then v else s t
def put (s:Env) (d:Option Nat) (v:Value):Env:=match d with | some d=>upd s d v | none=>s
def nth {α:Type}:List α→Nat→Option α
 | [],_=>none
 | x :: _,0=>some x
 | _ :: l,n+1=>nth l n
def ztN (l:List Value) (t:Nat):Value:=match nth l t with | some v=>v | none=>undef
def zbi (m t:Nat):Bool:=Nat.beq (Nat.land 1 (Nat.shiftRight m t)) 1
def mix (m:Nat) (s u:Env):Env:=fun t=>bif zbi m t then u t else s t
def BR (v:Value) (kt kf:Prop):Prop:=match v with | .bool true=>kt | .bool false=>kf | _=>False
def GBR (v:Value) (kt kf ks:Prop):Prop:=match v with | .bool true=>kt | .bool false=>kf | .tuple a=>(bif Nat.beq a.size 0 then ks else False) | _=>False
inductive RD (P:Program) (m:Sem Value) (w:World) (K:Value→Prop):Prop
 | mk (v:Value) (h:∀ w',Ext w w'→m.run P w'=.ok v w') (k:K v):RD P m w K
structure ExtX (X:Nat→Prop) (w w':World):Prop where
 os:w'.os=w.os
 tape:w'.tape=w.tape
 output:w'.output=w.output
 size:w.heap.size≤w'.heap.size
 block:∀ b,b<w.heap.size→¬X b→w'.heap[b]?=w.heap[b]?
structure Xt where
 l:List Nat
 X:Option (Nat→Prop)
def Xt.rel (x:Xt) (w w':World):Prop:=match x.X with | none=>Ext w w' | some X=>ExtX X w w'
inductive RDX (P:Program) (X:Nat→Prop) (m:Sem Value) (w:World) (K:Value→Prop):Prop
 | mk (v:Value) (h:∀ w',ExtX X w w'→m.run P w'=.ok v w') (k:K v):RDX P X m w K
inductive OP (P:Program) (m:Sem Value) (w:World) (K:Value→World→Prop):Prop
 | mk (v:Value) (w':World) (h:m.run P w=.ok v w') (k:K v w'):OP P m w K
inductive OPU (P:Program) (m:Sem Unit) (w:World) (K:World→Prop):Prop
 | mk (w':World) (h:m.run P w=.ok () w') (k:K w'):OPU P m w K
inductive CALL (P:Program) (f:FuncId) (args:List Value) (w:World) (K:Value→World→Prop):Prop
 | mk (h:Calls P f args.toArray w fun e w'=>∃ v,e=.returned v∧K v w'):CALL P f args w K
inductive OPN (P:Program) (m:Sem Next) (w:World) (K:Value→World→Prop):Prop
 | value (v:Value) (w':World) (h:m.run P w=.ok (.value v) w') (k:K v w'):OPN P m w K
 | skip (w':World) (h:m.run P w=.ok .skip w') (k:K undef w'):OPN P m w K
 | enter (f:FuncId) (args:Array Value) (w':World) (h:m.run P w=.ok (.enter f args) w') (k:Calls P f args w' fun e w''=>∃ v,e=.returned v∧K v w''):OPN P m w K
 | row (r:String) (args:Array Value) (w':World) (h:m.run P w=.ok (.row r args) w') (k:Go.Rows P r args w' K):OPN P m w K
def zoE:Value→Bool
 | .pointer (some _)=>true
 | .iface _ _=>true
 | .func (.func _) _ _=>true
 | _=>false
inductive NIL (v:Value) (k:Prop):Prop
 | mk (h:zoE v=true) (hk:k):NIL v k
inductive LOOPI (L:List Nat) (init:List Value) (w:World) (body:Env→World→(List Value→World→Prop)→Prop):Prop
 | mk (I:Nat→List Value→World→Prop) (m:Nat) (h0:I m init w)
     (hr:∀ m u w',I m (L.map u) w'→body u w' (fun us w''=>∃ m',m'<m∧I m' us w'')):LOOPI L init w body
inductive JOIN (L:List Nat) (body:(List Value→World→Prop)→Prop) (rest:Env→World→Prop):Prop
 | mk (J:List Value→World→Prop) (hb:body J) (hr:∀ u w',J (L.map u) w'→rest u w'):JOIN L body rest
def isC:Operand→Operand
 | .const _=>.const undef
 | _=>.tmp 0
def bin (op:BinOp) (t:TypeId) (x y:Operand) (a b:Value):Sem Value:=do eqGuard op t x y a b;binOp op t a b
def zqk (f:Value) (args:List Value):Sem Next:=do let d ←Deferred.ofValue f args.toArray;invoke d.target d.args
def zs5 (r:Value) (m:String) (args:List Value):Sem Next:=invoke (.fn (.method m) #[]) (#[r]++args.toArray)
def prs (s:Operand→Value):List (Nat×Operand)→List (Nat×Value)
 | []=>[]
 | (i,x) :: r=>(i,s x) :: prs s r
structure Cfg where
 ext:List Nat
 joins:List (Nat×Nat×List Nat)
 loops:List (Nat×Nat×List Nat)
 draws:List (Nat×List Nat×Nat)
 pars:List (Nat×Nat×Nat):=[]
 xs:List Nat:=[]
 gpars:List (Nat×Nat):=[]
def find {α:Type}:List (Nat×α)→Nat→Option α
 | [],_=>none
 | (k,a) :: r,n=>bif Nat.beq k n then some a else find r n
def zfC (o:Oper) (ρ:Operand→Value):Option (Sem Value):=
 match o.op with
 | .build t ps=>some (Instr.build t (prs ρ ps.toList).toArray)
 | .load t a=>some (Instr.loadAt t (ρ a))
 | .binOp op t x y _=>some (bin op t (isC x) (isC y) (ρ x) (ρ y))
 | .unOp op _ x=>some (Op.unary op (ρ x))
 | .convert a b x=>some (convert a b (ρ x))
 | .makeInterface t x=>some (Instr.makeInterface t (ρ x))
 | .makeFunc fn first captured=>some (Instr.makeFunc fn (first.toList.map ρ).toArray (captured.toList.map ρ).toArray)
 | .slice t x lo hi mx=>some (Instr.sliceAt t (ρ x) (lo.map ρ) (hi.map ρ) (mx.map ρ))
 | .fieldAddr t x f=>some (Instr.fieldAt t (ρ x) f)
 | .field t x f=>some (Instr.field t (ρ x) f)
 | .indexAddr t x i=>some (Instr.indexAt t (ρ x) (ρ i))
 | .index t x i=>some (Instr.index t (ρ x) (ρ i))
 | .lookup t m k ok=>some (Instr.lookup t (ρ m) (ρ k) ok)
 | .extract t i=>some (Instr.extract (ρ t) i)
 | .typeAssert x t u ok=>some (Instr.typeAssert (ρ x) t u ok)
 | .call { callee:=.builtin .len,args,argTypes }=>some (Builtin.len_ argTypes o.type (args.toList.map ρ).toArray)
 | .call { callee:=.builtin .cap,args,argTypes }=>some (Builtin.cap_ argTypes o.type (args.toList.map ρ).toArray)
 | .call { callee:=.builtin .min,args,argTypes }=>some (Builtin.min_ argTypes o.type (args.toList.map ρ).toArray)
 | .call { callee:=.builtin .max,args,argTypes }=>some (Builtin.max_ argTypes o.type (args.toList.map ρ).toArray)
 | _=>none
def opK (P:Program) (ext:Xt) (o:Oper) (ρ:Operand→Value) (w:World) (K:Value→World→Prop):Prop:=
 match o.op with
 | .move x=>K (ρ x) w
 | .assign x=>K (ρ x) w
 | .pick c a b=>BR (ρ c) (K (ρ a) w) (K (ρ b) w)
 | .nilCheck x=>NIL (ρ x) (K (ρ x) w)
 | .alloc e=>OP P (Instr.alloc e true (.tuple #[])) w K
 | .box e x=>OP P (Instr.box e (ρ x)) w K
 | .buildSlice t n ps=>OP P (Instr.buildSlice t n (prs ρ ps.toList).toArray) w K
 | .store t a x=>OPU P (Instr.storeAt t (ρ a) (ρ x)) w (K undef)
 | .makeMap t r=>OP P (Instr.makeMap t (r.map ρ)) w K
 | .makeSlice t l c=>OP P (Instr.makeSlice t (ρ l) (ρ c)) w K
 | .mapUpdate t m k x=>OPU P (Instr.mapUpdate t (ρ m) (ρ k) (ρ x)) w (K undef)
 | .insert t m k x=>OPU P (Instr.mapUpdate t (ρ m) (ρ k) (ρ x)) w (K undef)
 | .mapEntry t m k=>OP P (Instr.mapEntry t (ρ m) (ρ k)) w K
 | .entryStore t m k x=>OPU P (Instr.entryStore t (ρ m) (ρ k) (ρ x)) w (K undef)
 | .range t x=>OP P (Instr.range t (ρ x)) w K
 | .next it b=>OP P (Instr.next (ρ it) b o.type) w K
 | .entry it=>OP P (Instr.entry (ρ it)) w K
 | .call { callee:=.value (.func f),args,.. }=>bif ext.l.elem f then OPN P (callFunc f (args.toList.map ρ).toArray) w K else CALL P f (args.toList.map ρ) w K
 | .call { callee:=.value x,args,.. }=>OPN P (zqk (ρ x) (args.toList.map ρ)) w K
 | .call { callee:=.invoke r m,args,.. }=>OPN P (zs5 (ρ r) m (args.toList.map ρ)) w K
 | .call { callee:=.builtin .append,args,argTypes }=>OP P (Builtin.append_ argTypes o.type (args.toList.map ρ).toArray) w K
 | .call { callee:=.builtin .copy,args,argTypes }=>OP P (Builtin.copy_ argTypes o.type (args.toList.map ρ).toArray) w K
 | .call { callee:=.builtin .delete,args,argTypes }=>OP P (Builtin.delete_ argTypes o.type (args.toList.map ρ).toArray) w K
 | .call { callee:=.builtin .clear,args,argTypes }=>OP P (Builtin.clear_ argTypes o.type (args.toList.map ρ).toArray) w K
 | _=>match zfC o ρ with
   | some m=>(match ext.X with | none=>RD P m w (fun v=>K v w) | some X=>RDX P X m w (fun v=>K v w))
   | none=>False
def opF (P:Program) (ext:Xt) (o:Oper) (flag:Bool) (s:Env) (w:World) (K:Env→World→Prop):Prop:=
 opK P ext o (ev s) w (fun v w'=>bif flag then (match ext.X with | none=>Ext w w' | some X=>ExtX X w w')∧K (put s o.dst v) w' else K (put s o.dst v) w')
def zeU (P:Program) (ext:Xt) (ol:List Oper) (fl:Nat) (i:Nat) (s:Env) (w:World) (K:Env→World→Prop):Prop:=
 match nth ol i with
 | none=>False
 | some o=>
   match o.guard with
   | none=>opF P ext o (zbi fl i) s w K
   | some (j,want)=>
     match (nth ol j).bind (·.dst) with
     | none=>False
     | some d=>match (nth ol j).bind (·.guard) with
       | none=>BR (s d)
         (bif want then opF P ext o (zbi fl i) (upd s d (.bool true)) w K else K (put (upd s d (.bool true)) o.dst undef) w)
         (bif want then K (put (upd s d (.bool false)) o.dst undef) w else opF P ext o (zbi fl i) (upd s d (.bool false)) w K)
       | some _=>GBR (s d)
         (bif want then opF P ext o (zbi fl i) (upd s d (.bool true)) w K else K (put (upd s d (.bool true)) o.dst undef) w)
         (bif want then K (put (upd s d (.bool false)) o.dst undef) w else opF P ext o (zbi fl i) (upd s d (.bool false)) w K)
         (K (put (upd s d undef) o.dst undef) w)
def zf0 (P:Program) (ext:Xt) (ol:List Oper) (fl:Nat) (K:Env→World→Prop):List Nat→Env→World→Prop
 | [],s,w=>K s w
 | i :: r,s,w=>zeU P ext ol fl i s w (zf0 P ext ol fl K r)
def zbf (l:List Nat) (lo hi:Nat) (T:Nat→Nat×Nat):Prop:=(∀ i∈l,lo≤(T i).1∧(T i).1≤(T i).2∧(T i).2≤hi)∧∀ i∈l,∀ j∈l,i≠j→(T i).2≤(T j).1∨(T j).2≤(T i).1
def zcx (T:Nat→Nat×Nat) (d:Nat) (x:Nat×Nat):Nat→Nat×Nat:=fun t=>bif Nat.beq t d then x else T t
def zlP {α:Type} (l:List (List α)) (i:Nat):List α:=match nth l i with | some x=>x | none=>[]
abbrev ParQ:=Nat→Env→(Nat→Nat×Nat)→World→Prop
inductive PAR (w:World) (deps:List (List (Nat×Nat))) (steps fin:ParQ→Prop):Prop
 | mk (Q:ParQ) (st:∀ i u u' T T' w1 w2,Ext w w1→Ext w1 w2→(∀ p∈zlP deps i,u' p.2=u p.2∧T' p.1=T p.1)→Q i u T w1→Q i u' T' w2) (h1:steps Q) (h2:fin Q):PAR w deps steps fin
def ziW (ol:List Oper) (j:Nat):Nat:=match (nth ol j).bind (·.dst) with | some d=>d | none=>0
def onL:List Edge→List Nat
 | []=>[]
 | e :: r=>bif Region.binds .any e then e.on :: onL r else onL r
def onD (ol:List Oper):List Edge→List (Nat×Nat)
 | []=>[]
 | e :: r=>bif Region.binds .any e then (e.on,ziW ol e.on) :: onD ol r else onD ol r
def zf1 (ol:List Oper):Nat→List Oper→List (List (Nat×Nat))
 | _,[]=>[]
 | i,o :: r=>((i,ziW ol i) :: onD ol o.after.toList) :: zf1 ol (i+1) r
def zhm (Q:ParQ) (u:Env) (T:Nat→Nat×Nat) (w:World):List Edge→Prop
 | []=>True
 | e :: r=>bif Region.binds .any e then Q e.on u T w∧zhm Q u T w r else zhm Q u T w r
def zfg (P:Program) (ext:Xt) (ol:List Oper) (m:Nat) (s:Env) (w:World) (Q:ParQ):Nat→List Oper→Prop
 | _,[]=>True
 | i,o :: r=>(∀ (u:Env) (T:Nat→Nat×Nat) (w1:World),Ext w w1→zbf (onL o.after.toList) w.heap.size w1.heap.size T→zhm Q u T w1 o.after.toList →
     opK P ext o (ev (mix m s u)) w1 (fun v w2=>Ext w1 w2∧Q i (upd u (ziW ol i) v) (zcx T i (w1.heap.size,w2.heap.size)) w2))∧zfg P ext ol m s w Q (i+1) r
def zhS (Q:ParQ) (u:Env) (T:Nat→Nat×Nat) (w:World):Nat→Nat→Prop
 | _,0=>True
 | i,n+1=>Q i u T w∧zhS Q u T w (i+1) n
def zup (P:Program) (ext:Xt) (ol:List Oper) (m p:Nat) (s:Env) (w:World) (K:Env→World→Prop):Prop:=
 PAR w (zf1 ol 0 (ol.take p)) (fun Q=>zfg P ext ol m s w Q 0 (ol.take p))
   (fun Q=>∀ (u:Env) (T:Nat→Nat×Nat) (w1:World),Ext w w1→zbf (List.range p) w.heap.size w1.heap.size T→zhS Q u T w1 0 p→zf0 P ext ol 0 K ((List.range ol.length).drop p) (mix m s u) w1)
inductive GPAR (w:World) (deps:List (List (Nat×Nat))) (steps:(World→Prop)→(Nat→World→World→Prop)→ParQ→Prop) (fin:(World→Prop)→ParQ→Prop):Prop
 | mk (B:World→Prop) (R:Nat→World→World→Prop) (Q:ParQ) (hb:B w) (bs:∀ j w1 w2,B w1→R j w1 w2→B w2) (sz:∀ j w1 w2,R j w1 w2→w1.heap.size≤w2.heap.size)
     (st:∀ i j u u' T T' w1 w2,i≠j→B w1→R j w1 w2→(∀ p∈zlP deps i,u' p.2=u p.2∧T' p.1=T p.1)→Q i u T w1→Q i u' T' w2) (h1:steps B R Q) (h2:fin B Q):GPAR w deps steps fin
def zmR (ol:List Oper) (j:Nat):List (Nat×Nat):=match (nth ol j).bind (·.dst) with | some d=>[(j,d)] | none=>[]
def zsU (ol:List Oper):List Edge→List (Nat×Nat)
 | []=>[]
 | e :: r=>bif Region.binds .any e then zmR ol e.on++zsU ol r else zsU ol r
def zkF (ol:List Oper):Nat→List Oper→List (List (Nat×Nat))
 | _,[]=>[]
 | i,o :: r=>(zmR ol i++zsU ol o.after.toList) :: zkF ol (i+1) r
def zeV (P:Program) (ext:Xt) (m:Nat) (s:Env) (w:World) (B:World→Prop) (R:Nat→World→World→Prop) (Q:ParQ):Nat→List Oper→Prop
 | _,[]=>True
 | i,o :: r=>(∀ (u:Env) (T:Nat→Nat×Nat) (w1:World),B w1→w.heap.size≤w1.heap.size→zbf (onL o.after.toList) w.heap.size w1.heap.size T→zhm Q u T w1 o.after.toList →
     opK P ext o (ev (mix m s u)) w1 (fun v w2=>R i w1 w2∧Q i (put u o.dst v) (zcx T i (w1.heap.size,w2.heap.size)) w2))∧zeV P ext m s w B R Q (i+1) r
def ztO (P:Program) (ext:Xt) (ol:List Oper) (m:Nat) (s:Env) (w:World) (K:Env→World→Prop):Prop:=
 GPAR w (zkF ol 0 ol) (fun B R Q=>zeV P ext m s w B R Q 0 ol)
   (fun B Q=>∀ (u:Env) (T:Nat→Nat×Nat) (w1:World),B w1→w.heap.size≤w1.heap.size→zbf (List.range ol.length) w.heap.size w1.heap.size T→zhS Q u T w1 0 ol.length→K (mix m s u) w1)
inductive XR (body:(Nat→Prop)→Prop):Prop
 | mk (X:Nat→Prop) (h:body X):XR body
def lit (s:Env) (c:Operand) (b:Bool):Env:=match c with | .tmp t=>upd s t (.bool b) | _=>s
def zbI:Code→Option Nat
 | .region id _ _=>some id
 | .seq a b=>match zbI a with | some i=>some i | none=>zbI b
 | .block _ c=>zbI c
 | .loop c=>zbI c
 | _=>none
def zrN (K:Exit→Env→World→Prop) (N:Env→World→Prop):Exit→Env→World→Prop
 | .normal,s,w=>N s w
 | e,s,w=>K e s w
def zrk (id:Nat) (K:Exit→Env→World→Prop):Exit→Env→World→Prop
 | .exit j,s,w=>bif Nat.beq j id then K .normal s w else K (.exit j) s w
 | e,s,w=>K e s w
def World.drew1 (w:World):World:={ w with drawn:=w.drawn+1 }
def vc (P:Program) (g:Cfg):Code→Env→World→(Exit→Env→World→Prop)→Prop
 | .skip,s,w,K=>K .normal s w
 | .region _ ops false,s,w,K=>zf0 P ⟨g.ext,none⟩ ops.toList 0 (K .normal) (List.range ops.size) s w
 | .region id ops true,s,w,K=>
   match find g.gpars id with
   | some m=>ztO P ⟨g.ext,none⟩ ops.toList m s (World.drew1 w) (K .normal)
   | none=>
   match find g.pars id with
   | some (m,p)=>zup P ⟨g.ext,none⟩ ops.toList m p s (World.drew1 w) (K .normal)
   | none=>
     match find g.draws id with
     | some (l,fl)=>bif g.xs.elem id then XR (fun X=>zf0 P ⟨g.ext,some X⟩ ops.toList fl (K .normal) l s (World.drew1 w)) else zf0 P ⟨g.ext,none⟩ ops.toList fl (K .normal) l s (World.drew1 w)
     | none=>False
 | .seq a b,s,w,K=>
   match (zbI b).bind (find g.joins) with
   | some (m,L)=>JOIN L (fun J=>vc P g a s w (zrN K fun s' w'=>J (L.map s') w')) (fun u w'=>vc P g b (mix m s u) w' K)
   | none=>vc P g a s w (zrN K fun s' w'=>vc P g b s' w' K)
 | .cond c x y,s,w,K=>BR (ev s c) (vc P g x (lit s c true) w K) (vc P g y (lit s c false) w K)
 | .block id c,s,w,K=>vc P g c s w (zrk id K)
 | .loop c,s,w,K=>
   match (zbI c).bind (find g.loops) with
   | some (m,L)=>LOOPI L (L.map s) w fun u w' next=>vc P g c (mix m s u) w' (zrN K fun s' w''=>next (L.map s') w'')
   | none=>False
 | .exit id,s,w,K=>K (.exit id) s w
 | .ret,s,w,K=>K .ret s w
 | _,_,_,_=>False
def zar (t:TypeId) (v:Value):Sem Value:=do loadVar t (←asAddr v)
def zsV (P:Program) (s:Env) (w:World):List ResultVar→(List Value→Prop)→Prop
 | [],k=>k []
 | .tmp t :: r,k=>zsV P s w r fun vs=>k (s t :: vs)
 | .cell a t :: r,k=>RD P (zar t (s a)) w fun v=>zsV P s w r fun vs=>k (v :: vs)
def one:List Value→Value
 | [v]=>v
 | vs=>.tuple vs.toArray
def zuq (P:Program) (rs:List ResultVar) (R:Value→World→Prop):Exit→Env→World→Prop
 | .normal,s,w=>zsV P s w rs fun vs=>R (one vs) w
 | .ret,s,w=>zsV P s w rs fun vs=>R (one vs) w
 | _,_,_=>False
def vcF (P:Program) (g:Cfg) (fn:Func) (args:List Value) (w:World) (R:Value→World→Prop):Prop:=
 match fn.body with
 | some c=>vc P g c (ztN args) w (zuq P fn.results.toList R)
 | none=>False
end Go.Sh
namespace Go.Sh
open Go.RowKit (Below)
def za3 (a:Act):Env:=fun t=>a.tmps.getD t undef
theorem zmS (a:Act):ev (za3 a)=a.eval:=by funext x;cases x<;>rfl
theorem zfw {α:Type} (l:List α) (i:Nat):nth l i=l[i]?:=by
 induction l generalizing i with
 | nil=>cases i<;>rfl
 | cons x l ih=>cases i<;>simp [nth,ih]
theorem zcy {α:Type} (l:Array α) (i:Nat):nth l.toList i=l[i]?:=by rw [zfw];simp
theorem zfh (s:Env) (d:Nat) (v:Value):upd s d v d=v:=by simp [upd]
theorem zbN (s:Env) {d t:Nat} (v:Value) (h:t≠d):upd s d v t=s t:=by
 have:Nat.beq t d=false:=by rw [Bool.eq_false_iff];exact fun e=>h (Nat.eq_of_beq_eq_true e)
 simp [upd,this]
theorem zen {s:Env} {d:Nat} {v:Value} (h:s d=v):upd s d v=s:=by
 funext t
 by_cases e:t=d
 · subst e;rw [zfh,h]
 rw [zbN _ _ e]
theorem zql (s:Env) {d e:Nat} (v u:Value) (h:d≠e):upd (upd s d v) e u=upd (upd s e u) d v:=by
 funext t
 by_cases h1:t=d
 · subst h1;rw [zfh,zbN _ _ h,zfh]
 by_cases h2:t=e
 · subst h2;rw [zfh,zbN _ _ h1,zfh]
 rw [zbN _ _ h2,zbN _ _ h1,zbN _ _ h1,zbN _ _ h2]
theorem zqm (s:Env) {x y:Option Nat} (v u:Value) (h:∀ d,x=some d→y≠some d):put (put s x v) y u=put (put s y u) x v:=by
 cases x with
 | none=>rfl
 | some d=>
   cases y with
   | none=>rfl
   | some e=>exact zql s v u (fun he=>h d rfl (he▸rfl))
theorem zoF {s:Env} {x:Option Nat} {v:Value} {t:Nat} (h:∀ d,x=some d→t≠d):put s x v t=s t:=by
 cases x with
 | none=>rfl
 | some d=>exact zbN _ _ (h d rfl)
theorem zoG {a:Act} {d:Option Nat} {v:Value} (h:∀ t,d=some t→t<a.tmps.size):za3 (a.put d v)=put (za3 a) d v:=by
 cases d with
 | none=>rfl
 | some d=>
   funext t
   have hd:=h d rfl
   by_cases e:t=d
   · subst e;simp [za3,Act.put,put,zfh,hd]
   simp only [put]
   rw [zbN _ _ e]
   simp [za3,Act.put,Array.getElem?_setIfInBounds_ne (Ne.symm e)]
theorem zqn (a:Act) (d:Option Nat) (v:Value):(a.put d v).tmps.size=a.tmps.size:=by cases d<;>simp [Act.put]
theorem zrO (a:Act) (d:Option Nat) (v:Value):(a.put d v).defers=a.defers:=by cases d<;>rfl
theorem zd3 (m t:Nat):zbi m t=m.testBit t:=by
 unfold zbi Nat.testBit
 show Nat.beq (1 &&& (m >>> t)) 1=(1 &&& (m >>> t) != 0)
 have h:(1 &&& (m >>> t))=(m >>> t)%2:=by rw [Nat.and_comm];exact Nat.and_one_is_mod _
 rw [h]
 rcases Nat.mod_two_eq_zero_or_one (m >>> t) with h2 | h2<;>rw [h2]<;>rfl
theorem zkG (v:Value) (kt kf:Prop):BR v kt kf↔∃ b,v=.bool b∧(if b then kt else kf):=by
 constructor
 · intro h
   cases v with
   | bool b=>exact ⟨b,rfl,by cases b<;>exact h⟩
   | _=>exact h.elim
 rintro ⟨b,rfl,h⟩
 cases b<;>exact h
theorem zrl (ρ:Operand→Value) (ps:Array (Nat×Operand)):(prs ρ ps.toList).toArray=ps.map fun (i,x)=>(i,ρ x):=by
 have:∀ l:List (Nat×Operand),prs ρ l=l.map fun (i,x)=>(i,ρ x):=by
   intro l
   induction l with
   | nil=>rfl
   | cons p l ih=>obtain ⟨i,x⟩:=p;simp [prs,ih]
 rw [this]
 apply Array.ext'
 simp
theorem zdh (ρ:Operand→Value) (xs:Array Operand):(xs.toList.map ρ).toArray=xs.map ρ:=by
 apply Array.ext'
 simp
theorem zlQ (op:BinOp) (t:TypeId) (x y:Operand) (a b:Value):eqGuard op t (isC x) (isC y) a b=eqGuard op t x y a b:=by
 cases x<;>cases y<;>rfl
theorem zrP {P:Program} {m:Sem Value} {w w':World} {v:Value} (h:m.run P w=.ok v w'):(do pure (Next.value (←m)):Sem Next).run P w=.ok (.value v) w':=by
 simp [h]
theorem ztP {P:Program} {m:Sem Unit} {w w':World} (h:m.run P w=.ok () w'):(do m;pure Next.skip:Sem Next).run P w=.ok .skip w':=by
 simp [h]
theorem znN {P:Program} {o:Oper} {ρ:Operand→Value} {m:Sem Value} {w w':World} {v:Value} (hm:zfC o ρ=some m) (h:m.run P w=.ok v w') :
   (execOp ρ o).run P w=.ok (.value v) w':=by
 obtain ⟨dst,op,type,pos,after,guard⟩:=o
 cases op<;>simp only [zfC] at hm
 case call c=>
   obtain ⟨callee,args,argTypes⟩:=c
   cases callee with
   | value f=>simp at hm
   | invoke r m=>simp at hm
   | builtin b=>
     cases b<;>simp only [Option.some.injEq,reduceCtorEq] at hm<;>subst hm<;>rw [zdh] at h <;>
       simp only [execOp,resolve,invoke,builtin,Sem.run_bind,Sem.run_pure,Result.andThen_ok]<;>simp [h]
 all_goals first
   | (simp at hm;done)
   | (simp only [Option.some.injEq] at hm;subst hm;exact zrP h)
   | (simp only [Option.some.injEq] at hm;subst hm;simp only [zrl,zdh,zlQ,bin] at h;exact zrP h)
def zeW (P:Program) (f:Nat):Bool:=
 match P.funcs[f]? with
 | some fn=>!(fn.name == "runtime.NumGoroutine")&&fn.body.isSome
 | none=>false
theorem ExtX.refl (X:Nat→Prop) (w:World):ExtX X w w:=⟨rfl,rfl,rfl,Nat.le_refl _,fun _ _ _=>rfl⟩
theorem ExtX.trans {X:Nat→Prop} {a b c:World} (h:ExtX X a b) (k:ExtX X b c):ExtX X a c:=
 ⟨k.os.trans h.os,k.tape.trans h.tape,k.output.trans h.output,Nat.le_trans h.size k.size,fun i hi hX=>(k.block i (Nat.lt_of_lt_of_le hi h.size) hX).trans (h.block i hi hX)⟩
theorem Xt.rel_refl (x:Xt) (w:World):x.rel w w:=by
 unfold Xt.rel
 split
 · exact Ext.refl w
 exact ExtX.refl _ w
theorem Xt.rel_trans (x:Xt) {a b c:World} (h:x.rel a b) (k:x.rel b c):x.rel a c:=by
 unfold Xt.rel at *
 split at h
 · rename_i hX;simp only [hX] at k ⊢;exact Ext.trans h k
 rename_i X hX;simp only [hX] at k ⊢;exact ExtX.trans h k
theorem RDr_iff {P:Program} {x:Xt} {m:Sem Value} {w:World} {K:Value→Prop}:(match x.X with | none=>RD P m w K | some X=>RDX P X m w K)↔∃ v,(∀ w',x.rel w w'→m.run P w'=.ok v w')∧K v:=by
 unfold Xt.rel
 cases x.X with
 | none=>exact ⟨fun ⟨v,h,k⟩=>⟨v,h,k⟩,fun ⟨v,h,k⟩=>⟨v,h,k⟩⟩
 | some X=>exact ⟨fun ⟨v,h,k⟩=>⟨v,h,k⟩,fun ⟨v,h,k⟩=>⟨v,h,k⟩⟩
def zmT (ext:List Nat) (N:Nat) (o:Oper):Bool:=
 match o.op with
 | .call { callee:=.value (.func f),.. }=>ext.elem f || Nat.blt f N
 | _=>true
theorem zhn {P:Program} {f:Nat} (h:zeW P f=true) (args:Array Value) (w:World):(callFunc f args).run P w=.ok (.enter f args) w:=by
 unfold zeW at h
 cases hf:P.funcs[f]? with
 | none=>simp [hf] at h
 | some fn=>
   simp only [hf,Bool.and_eq_true,Bool.not_eq_true'] at h
   have hn:¬fn.name = "runtime.NumGoroutine" := by simpa using h.1
   have hb:¬fn.body=none:=by intro hb;simp [hb] at h
   unfold callFunc
   simp [program,Sem.run,hf,hn,hb]
section
variable {P:Program} {ext:Xt} {N:Nat} (hE:∀ f,f<N→ext.l.elem f=false→zeW P f=true)
theorem zi1 {o:Oper} {a:Act} {K:Value→World→Prop} {Q:Exit→Act→World→Prop} {f:FuncId} {args:Array Value} {w:World}
   (h:Calls P f args w fun e w'=>∃ v,e=.returned v∧K v w') :
   o.upon P a (fun a' w'=>∃ v,a'=a.put o.dst v∧K v w') Q (.ok (.enter f args) w):=by
 rw [Oper.upon_enter]
 exact h.mono fun e w' ⟨v,he,hk⟩=>by subst he;exact ⟨v,rfl,hk⟩
theorem zf2 {o:Oper} {a:Act} {K:Value→World→Prop} {Q:Exit→Act→World→Prop} {m:Sem Next} {w:World} (h:OPN P m w K) :
   o.upon P a (fun a' w'=>∃ v,a'=a.put o.dst v∧K v w') Q (m.run P w):=by
 cases h with
 | value v w' hr k=>rw [hr];exact ⟨v,rfl,k⟩
 | skip w' hr k=>rw [hr];exact ⟨undef,rfl,k⟩
 | enter f args w' hr k=>rw [hr];exact zi1 k
 | row r args w' hr k=>rw [hr,Oper.upon_row];exact k.mono fun v w'' hk=>⟨v,rfl,hk⟩
include hE in
theorem zoH {o:Oper} {a:Act} {w:World} {K:Value→World→Prop} {Q:Exit→Act→World→Prop} (hc:zmT ext.l N o=true)
   (h:opK P ext o a.eval w K):o.wp P a w (fun a' w'=>∃ v,a'=a.put o.dst v∧K v w') Q:=by
 unfold Oper.wp
 obtain ⟨dst,op,type,pos,after,guard⟩:=o
 have rd:∀ {m:Sem Value},zfC ⟨dst,op,type,pos,after,guard⟩ a.eval=some m→(match ext.X with | none=>RD P m w (fun v=>K v w) | some X=>RDX P X m w (fun v=>K v w)) →
     (Oper.mk dst op type pos after guard).upon P a (fun a' w'=>∃ v,a'=a.put dst v∧K v w') Q ((execOp a.eval ⟨dst,op,type,pos,after,guard⟩).run P w):=by
   intro m hm hr
   obtain ⟨v,hv,k⟩:=RDr_iff.1 hr
   rw [znN hm (hv w (ext.rel_refl w))]
   exact ⟨v,rfl,k⟩
 have val:∀ {m:Sem Value},OP P m w K→(execOp a.eval ⟨dst,op,type,pos,after,guard⟩=(do pure (Next.value (←m)):Sem Next)) →
     (Oper.mk dst op type pos after guard).upon P a (fun a' w'=>∃ v,a'=a.put dst v∧K v w') Q ((execOp a.eval ⟨dst,op,type,pos,after,guard⟩).run P w):=by
   intro m ho he
   obtain ⟨v,w',hr,k⟩:=ho
   rw [he,zrP hr]
   exact ⟨v,rfl,k⟩
 have uni:∀ {m:Sem Unit},OPU P m w (K undef)→(execOp a.eval ⟨dst,op,type,pos,after,guard⟩=(do m;pure Next.skip:Sem Next)) →
     (Oper.mk dst op type pos after guard).upon P a (fun a' w'=>∃ v,a'=a.put dst v∧K v w') Q ((execOp a.eval ⟨dst,op,type,pos,after,guard⟩).run P w):=by
   intro m ho he
   obtain ⟨w',hr,k⟩:=ho
   rw [he,ztP hr]
   exact ⟨undef,rfl,k⟩
 cases op
 case move x=>exact ⟨_,rfl,h⟩
 case assign x=>exact ⟨_,rfl,h⟩
 case pick c x y=>
   simp only [opK,zkG] at h
   obtain ⟨b,hb,h⟩:=h
   simp only [execOp,hb,asBool]
   cases b<;>exact ⟨_,rfl,h⟩
 case nilCheck x=>
   simp only [opK] at h
   obtain ⟨hn,k⟩:=h
   simp only [execOp]
   cases hx:a.eval x with
   | pointer p=>cases p with
     | none=>simp [hx,zoE] at hn
     | some p=>exact ⟨_,rfl,hx▸k⟩
   | iface t v=>exact ⟨_,rfl,hx▸k⟩
   | func fn first captured=>cases fn with
     | func f=>exact ⟨_,rfl,hx▸k⟩
     | _=>simp [hx,zoE] at hn
   | _=>simp [hx,zoE] at hn
 case alloc e=>exact val h rfl
 case box e x=>exact val h rfl
 case buildSlice t n ps=>exact val h (by simp only [execOp,zrl])
 case store t x y=>exact uni h rfl
 case makeMap t r=>exact val h rfl
 case makeSlice t l c=>exact val h rfl
 case mapUpdate t m k x=>exact uni h rfl
 case insert t m k x=>exact uni h rfl
 case mapEntry t m k=>exact val h rfl
 case entryStore t m k x=>exact uni h rfl
 case range t x=>exact val h rfl
 case next it b=>exact val h rfl
 case entry it=>exact val h rfl
 case call c=>
   obtain ⟨callee,args,argTypes⟩:=c
   cases callee with
   | value f=>
     cases f with
     | func f=>
       simp only [opK] at h
       have he:(execOp a.eval ⟨dst,.call ⟨.value (.func f),args,argTypes⟩,type,pos,after,guard⟩).run P w=(callFunc f (args.map a.eval)).run P w:=by
         simp [execOp,resolve,Act.eval,Deferred.ofValue,invoke]
       rw [he]
       cases hx:ext.l.elem f with
       | true=>simp only [hx,cond_true,zdh] at h;exact zf2 h
       | false=>
         simp only [hx,cond_false] at h
         obtain ⟨h⟩:=h
         simp only [zmT,hx,Bool.false_or] at hc
         have hlt:f<N:=Nat.le_of_ble_eq_true hc
         rw [zhn (hE f hlt hx)]
         rw [zdh] at h
         exact zi1 h
     | tmp t=>
       simp only [opK] at h
       have:=zf2 (o:=⟨dst,.call ⟨.value (.tmp t),args,argTypes⟩,type,pos,after,guard⟩) (a:=a) (Q:=Q) h
       simpa [execOp,resolve,zqk,zdh] using this
     | const v=>
       simp only [opK] at h
       have:=zf2 (o:=⟨dst,.call ⟨.value (.const v),args,argTypes⟩,type,pos,after,guard⟩) (a:=a) (Q:=Q) h
       simpa [execOp,resolve,zqk,zdh] using this
     | global g=>
       simp only [opK] at h
       have:=zf2 (o:=⟨dst,.call ⟨.value (.global g),args,argTypes⟩,type,pos,after,guard⟩) (a:=a) (Q:=Q) h
       simpa [execOp,resolve,zqk,zdh] using this
   | invoke r m=>
     simp only [opK] at h
     have:=zf2 (o:=⟨dst,.call ⟨.invoke r m,args,argTypes⟩,type,pos,after,guard⟩) (a:=a) (Q:=Q) h
     simpa [execOp,resolve,zs5,zdh] using this
   | builtin b=>
     cases b
     case append=>exact val h (by simp only [execOp,resolve,invoke,builtin,zdh,pure_bind])
     case copy=>exact val h (by simp only [execOp,resolve,invoke,builtin,zdh,pure_bind])
     case delete=>exact val h (by simp only [execOp,resolve,invoke,builtin,zdh,pure_bind])
     case clear=>exact val h (by simp only [execOp,resolve,invoke,builtin,zdh,pure_bind])
     case len=>exact rd rfl h
     case cap=>exact rd rfl h
     case min=>exact rd rfl h
     case max=>exact rd rfl h
     all_goals exact (show False from h).elim
 all_goals first | exact (show False from h).elim | exact rd rfl h
end
end Go.Sh
namespace Go.Sh
open Go.RowKit (Below)
theorem zjy {P:Program} {m:Sem Next} {w:World} {K K':Value→World→Prop} (hk:∀ v w',K v w'→K' v w') (h:OPN P m w K):OPN P m w K':=by
 cases h with
 | value v w' hr k=>exact .value v w' hr (hk _ _ k)
 | skip w' hr k=>exact .skip w' hr (hk _ _ k)
 | enter f args w' hr k=>exact .enter f args w' hr (k.mono fun e w'' ⟨v,he,h⟩=>⟨v,he,hk _ _ h⟩)
 | row r args w' hr k=>exact .row r args w' hr (k.mono fun v w'' h=>hk _ _ h)
theorem OP.mono {P:Program} {m:Sem Value} {w:World} {K K':Value→World→Prop} (h:OP P m w K) (hk:∀ v w',K v w'→K' v w'):OP P m w K':=by
 obtain ⟨v,w',hr,k⟩:=h;exact ⟨v,w',hr,hk _ _ k⟩
theorem OPU.mono {P:Program} {m:Sem Unit} {w:World} {K K':World→Prop} (h:OPU P m w K) (hk:∀ w',K w'→K' w'):OPU P m w K':=by
 obtain ⟨w',hr,k⟩:=h;exact ⟨w',hr,hk _ k⟩
theorem RDr.mono {P:Program} {x:Xt} {m:Sem Value} {w:World} {K K':Value→Prop} (h:match x.X with | none=>RD P m w K | some X=>RDX P X m w K) (hk:∀ v,K v→K' v):(match x.X with | none=>RD P m w K' | some X=>RDX P X m w K'):=by
 obtain ⟨v,h1,h2⟩:=RDr_iff.1 h
 exact RDr_iff.2 ⟨v,h1,hk v h2⟩
theorem RD.mono {P:Program} {m:Sem Value} {w:World} {K K':Value→Prop} (h:RD P m w K) (hk:∀ v,K v→K' v):RD P m w K':=by
 obtain ⟨v,hr,k⟩:=h;exact ⟨v,hr,hk _ k⟩
theorem CALL.mono {P:Program} {f:FuncId} {args:List Value} {w:World} {K K':Value→World→Prop} (h:CALL P f args w K) (hk:∀ v w',K v w'→K' v w'):CALL P f args w K':=by
 obtain ⟨h⟩:=h;exact ⟨h.mono fun e w' ⟨v,he,k⟩=>⟨v,he,hk _ _ k⟩⟩
theorem NIL.mono {v:Value} {k k':Prop} (h:NIL v k) (hk:k→k'):NIL v k':=by
 obtain ⟨a,b⟩:=h;exact ⟨a,hk b⟩
theorem BR.mono {v:Value} {a b a' b':Prop} (h:BR v a b) (ha:a→a') (hb:b→b'):BR v a' b':=by
 rw [zkG] at *
 obtain ⟨t,ht,h⟩:=h
 refine ⟨t,ht,?_⟩
 cases t<;>simp at h ⊢
 · exact hb h
 exact ha h
theorem zf3 {P:Program} {ext:Xt} {o:Oper} {ρ:Operand→Value} {w:World} {K K':Value→World→Prop} (hk:∀ v w',K v w'→K' v w')
   (h:opK P ext o ρ w K):opK P ext o ρ w K':=by
 obtain ⟨dst,op,type,pos,after,guard⟩:=o
 cases op
 case call c=>
   obtain ⟨callee,args,argTypes⟩:=c
   cases callee with
   | value f=>
     cases f with
     | func f=>
       simp only [opK] at h ⊢
       cases hx:ext.l.elem f<;>simp only [hx,cond_true,cond_false] at h ⊢
       · exact CALL.mono h hk
       exact zjy hk h
     | _=>exact zjy hk h
   | invoke r m=>exact zjy hk h
   | builtin b=>
     cases b
     case append=>exact OP.mono h hk
     case copy=>exact OP.mono h hk
     case delete=>exact OP.mono h hk
     case clear=>exact OP.mono h hk
     case len=>exact RDr.mono h fun v=>hk v _
     case cap=>exact RDr.mono h fun v=>hk v _
     case min=>exact RDr.mono h fun v=>hk v _
     case max=>exact RDr.mono h fun v=>hk v _
     all_goals exact (show False from h).elim
 case move x=>exact hk _ _ h
 case assign x=>exact hk _ _ h
 case pick c x y=>exact BR.mono h (hk _ _) (hk _ _)
 case nilCheck x=>exact NIL.mono h (hk _ _)
 all_goals first
   | exact (show False from h).elim
   | exact OP.mono h hk
   | exact OPU.mono h fun w'=>hk _ w'
   | exact RDr.mono h fun v=>hk v _
theorem zlR {o:Oper} {ρ ρ':Operand→Value} (h:∀ x∈o.op.operands,ρ x=ρ' x):zfC o ρ=zfC o ρ':=by
 obtain ⟨dst,op,type,pos,after,guard⟩:=o
 have ar:∀ xs:Array Operand,(∀ x∈xs,ρ x=ρ' x)→xs.toList.map ρ=xs.toList.map ρ':=fun xs hx=>List.map_congr_left fun x hm=>hx x (by simpa using hm)
 cases op<;>simp only [Op.operands] at h<;>simp only [zfC]
 case build t ps=>
   have:prs ρ ps.toList=prs ρ' ps.toList:=by
     have:∀ l:List (Nat×Operand),(∀ p∈l,ρ p.2=ρ' p.2)→prs ρ l=prs ρ' l:=by
       intro l
       induction l with
       | nil=>intro _;rfl
       | cons p l ih=>intro hl;obtain ⟨i,x⟩:=p;simp only [prs];rw [ih fun p hp=>hl p (by simp [hp]),show ρ x=ρ' x from hl (i,x) (by simp)]
     exact this _ fun p hp=>h p.2 (by simp;exact ⟨p.1,by simpa using hp⟩)
   rw [this]
 case makeFunc fn first captured=>
   rw [ar first fun x hx=>h x (by simp [hx]),ar captured fun x hx=>h x (by simp [hx])]
 case call c=>
   obtain ⟨callee,args,argTypes⟩:=c
   cases callee with
   | value f=>rfl
   | invoke r m=>rfl
   | builtin b=>cases b<;>first | rfl | (simp only;rw [ar args fun x hx=>h x (by simp [Call.operands,hx])])
 case slice t x lo hi mx=>cases lo<;>cases hi<;>cases mx<;>simp_all
 all_goals first | rfl | (simp_all;done)
theorem zkH {P:Program} {ext:Xt} {o:Oper} {ρ ρ':Operand→Value} {w:World} {K:Value→World→Prop} (h:∀ x∈o.op.operands,ρ x=ρ' x)
   (hk:opK P ext o ρ w K):opK P ext o ρ' w K:=by
 have hr:=zlR h
 obtain ⟨dst,op,type,pos,after,guard⟩:=o
 have ar:∀ xs:Array Operand,(∀ x∈xs,ρ x=ρ' x)→xs.toList.map ρ=xs.toList.map ρ':=fun xs hx=>List.map_congr_left fun x hm=>hx x (by simpa using hm)
 have e1:∀ x,ρ x=ρ' x→ρ' x=ρ x:=fun _=>Eq.symm
 cases op<;>simp only [Op.operands] at h
 case call c=>
   obtain ⟨callee,args,argTypes⟩:=c
   have ha:=ar args fun x hx=>h x (by simp [Call.operands,hx])
   cases callee with
   | value f=>
     have hf:ρ f=ρ' f:=h f (by simp [Call.operands])
     cases f with
     | func f=>simp only [opK,ha] at hk ⊢;exact hk
     | _=>simp only [opK,ha,hf] at hk ⊢;exact hk
   | invoke r m=>
     have hf:ρ r=ρ' r:=h r (by simp [Call.operands])
     simp only [opK,ha,hf] at hk ⊢;exact hk
   | builtin b=>
     cases b<;>simp only [opK,ha,zfC] at hk ⊢<;>exact hk
 case buildSlice t n ps=>
   have:prs ρ ps.toList=prs ρ' ps.toList:=by
     have:∀ l:List (Nat×Operand),(∀ p∈l,ρ p.2=ρ' p.2)→prs ρ l=prs ρ' l:=by
       intro l
       induction l with
       | nil=>intro _;rfl
       | cons p l ih=>intro hl;obtain ⟨i,x⟩:=p;simp only [prs];rw [ih fun p hp=>hl p (by simp [hp]),show ρ x=ρ' x from hl (i,x) (by simp)]
     exact this _ fun p hp=>h p.2 (by simp;exact ⟨p.1,by simpa using hp⟩)
   simp only [opK,this] at hk ⊢;exact hk
 case makeMap t r=>
   cases r with
   | none=>exact hk
   | some r=>simp only [opK,Option.map_some] at hk ⊢;rwa [←h r (by simp)]
 case move x=>simp only [opK] at hk ⊢;rwa [←h x (by simp)]
 case assign x=>simp only [opK] at hk ⊢;rwa [←h x (by simp)]
 case pick c x y=>simp only [opK] at hk ⊢;rwa [←h x (by simp),←h y (by simp),←h c (by simp)]
 case nilCheck x=>simp only [opK] at hk ⊢;rwa [←h x (by simp)]
 case alloc e=>exact hk
 case box e x=>simp only [opK] at hk ⊢;rwa [←h x (by simp)]
 case store t x y=>simp only [opK] at hk ⊢;rwa [←h x (by simp),←h y (by simp)]
 case makeSlice t x y=>simp only [opK] at hk ⊢;rwa [←h x (by simp),←h y (by simp)]
 case mapUpdate t x y z=>simp only [opK] at hk ⊢;rwa [←h x (by simp),←h y (by simp),←h z (by simp)]
 case insert t x y z=>simp only [opK] at hk ⊢;rwa [←h x (by simp),←h y (by simp),←h z (by simp)]
 case mapEntry t x y=>simp only [opK] at hk ⊢;rwa [←h x (by simp),←h y (by simp)]
 case entryStore t x y z=>simp only [opK] at hk ⊢;rwa [←h x (by simp),←h y (by simp),←h z (by simp)]
 case range t x=>simp only [opK] at hk ⊢;rwa [←h x (by simp)]
 case next x b=>simp only [opK] at hk ⊢;rwa [←h x (by simp)]
 case entry x=>simp only [opK] at hk ⊢;rwa [←h x (by simp)]
 all_goals first
   | exact (show False from hk).elim
   | (simp only [opK] at hk ⊢;rw [←hr];exact hk)
def zlS (o:Oper):Bool:=
 match o.op with
 | .move _=>true
 | .assign _=>true
 | .pick ..=>true
 | .nilCheck _=>true
 | _=>(zfC o fun _=>undef).isSome
def Rv (P:Program) (x:Xt) (o:Oper) (ρ:Operand→Value) (w:World) (v:Value):Prop:=
 match o.op with
 | .move x=>v=ρ x
 | .assign x=>v=ρ x
 | .pick c a b=>∃ t,ρ c=.bool t∧v=if t then ρ a else ρ b
 | .nilCheck x=>zoE (ρ x)=true∧v=ρ x
 | _=>∃ m,zfC o ρ=some m∧∀ w',x.rel w w'→m.run P w'=.ok v w'
theorem zf4 {P:Program} {ext:Xt} {o:Oper} {ρ:Operand→Value} {w:World} {K:Value→World→Prop} (hr:zlS o=true) :
   opK P ext o ρ w K↔∃ v,Rv P ext o ρ w v∧K v w:=by
 obtain ⟨dst,op,type,pos,after,guard⟩:=o
 have rd:∀ m,(match ext.X with | none=>RD P m w (fun v=>K v w) | some X=>RDX P X m w (fun v=>K v w))↔∃ v,(∃ m',some m=some m'∧∀ w',ext.rel w w'→m'.run P w'=.ok v w')∧K v w:=fun m=>
   RDr_iff.trans ⟨fun ⟨v,h,k⟩=>⟨v,⟨m,rfl,h⟩,k⟩,fun ⟨v,⟨m',e,h⟩,k⟩=>by cases e;exact ⟨v,h,k⟩⟩
 cases op
 case move x=>simp [opK,Rv]
 case assign x=>simp [opK,Rv]
 case pick c x y=>
   simp only [opK,Rv,zkG]
   constructor
   · rintro ⟨b,hb,h⟩;exact ⟨_,⟨b,hb,rfl⟩,by cases b<;>exact h⟩
   rintro ⟨v,⟨b,hb,rfl⟩,h⟩;exact ⟨b,hb,by cases b<;>exact h⟩
 case nilCheck x=>
   simp only [opK,Rv]
   exact ⟨fun ⟨a,b⟩=>⟨_,⟨a,rfl⟩,b⟩,fun ⟨v,⟨a,e⟩,b⟩=>by subst e;exact ⟨a,b⟩⟩
 case call c=>
   obtain ⟨callee,args,argTypes⟩:=c
   cases callee with
   | value f=>simp [zlS,zfC] at hr
   | invoke r m=>simp [zlS,zfC] at hr
   | builtin b=>cases b<;>first | exact rd _ | (simp [zlS,zfC] at hr)
 all_goals first
   | exact rd _
   | (simp [zlS,zfC] at hr)
theorem zs6 {P:Program} {x:Xt} {o:Oper} {ρ:Operand→Value} {w w':World} {v:Value} (h:Rv P x o ρ w v) (hx:x.rel w w'):Rv P x o ρ w' v:=by
 unfold Rv at *
 split at h<;>try exact h
 obtain ⟨m,hm,h⟩:=h
 exact ⟨m,hm,fun w'' hx'=>h w'' (x.rel_trans hx hx')⟩
theorem zqo {P:Program} {xt:Xt} {o:Oper} {ρ ρ':Operand→Value} {w:World} {v:Value} (h:∀ x∈o.op.operands,ρ x=ρ' x) (hr:zlS o=true) (hv:Rv P xt o ρ w v):Rv P xt o ρ' w v:=by
 have h1:=(zf4 (P:=P) (ext:=xt) (K:=fun v' w'=>v'=v∧w'=w) hr).2 ⟨v,hv,rfl,rfl⟩
 obtain ⟨v',hv',rfl,_⟩:=(zf4 hr).1 (zkH h h1)
 exact hv'
def zdj (o:Oper):Bool:=
 match o.op with
 | .move _=>true
 | .assign _=>true
 | .pick ..=>true
 | .nilCheck _=>true
 | .extract ..=>true
 | _=>false
theorem zeX {o:Oper} (h:zdj o=true):zlS o=true:=by
 obtain ⟨dst,op,type,pos,after,guard⟩:=o
 cases op<;>first | rfl | (simp [zdj] at h)
theorem zrQ {P:Program} {x:Xt} {o:Oper} {ρ:Operand→Value} {w w':World} {v:Value} (hp:zdj o=true) (h:Rv P x o ρ w v):Rv P x o ρ w' v:=by
 obtain ⟨dst,op,type,pos,after,guard⟩:=o
 cases op<;>first | exact h | (simp [zdj] at hp;done) | skip
 case extract t i=>
   obtain ⟨m,hm,h⟩:=h
   simp only [zfC,Option.some.injEq] at hm
   subst hm
   refine ⟨_,rfl,fun w'' _=>?_⟩
   have h1:=h w (x.rel_refl w)
   revert h1
   cases ρ t with
   | tuple vs=>
     simp only [Instr.extract]
     cases vs[i]? with
     | none=>intro h1;simp at h1
     | some u=>intro h1;simp at h1 ⊢;exact h1
   | _=>intro h1;simp [Instr.extract] at h1
def gOk (ol:List Oper) (o:Oper) (s:Env):Option Bool:=
 match o.guard with
 | none=>some true
 | some (j,want)=>
   match (nth ol j).bind (·.dst) with
   | none=>none
   | some d=>match s d with
     | .bool b=>some (b == want)
     | .tuple a=>bif Nat.beq a.size 0 then (match (nth ol j).bind (·.guard) with | none=>none | some _=>some false) else none
     | _=>none
theorem zrR (v:Value) (kt kf ks:Prop):GBR v kt kf ks↔(∃ b,v=.bool b∧(if b then kt else kf))∨(v=undef∧ks):=by
 cases v with
 | bool b=>cases b<;>simp [GBR,undef]
 | tuple a=>
   simp only [GBR,undef]
   cases h:Nat.beq a.size 0 with
   | true=>
     have:a=#[]:=Array.size_eq_zero_iff.1 (Nat.eq_of_beq_eq_true h)
     subst this;simp
   | false=>
     have:a≠#[]:=fun e=>by subst e;cases h
     simp [this]
 | _=>simp [GBR,undef]
theorem zcD {P:Program} {ext:Xt} {ol:List Oper} {fl i:Nat} {s:Env} {w:World} {K:Env→World→Prop} {o:Oper} (ho:nth ol i=some o) :
   zeU P ext ol fl i s w K↔∃ b,gOk ol o s=some b∧(if b then opF P ext o (zbi fl i) s w K else K (put s o.dst undef) w):=by
 unfold zeU gOk
 simp only [ho]
 cases hg:o.guard with
 | none=>simp
 | some g=>
   obtain ⟨j,want⟩:=g
   simp only
   cases hd:(nth ol j).bind (·.dst) with
   | none=>simp
   | some d=>
     simp only
     cases hgj:(nth ol j).bind (·.guard) with
     | none=>
       simp only [zkG]
       constructor
       · rintro ⟨b,hb,h⟩
         have hu:=zen hb
         refine ⟨b == want,by simp [hb],?_⟩
         cases b<;>cases want<;>simp only [cond_true,cond_false,if_true,Bool.false_eq_true,if_false,hu] at h ⊢<;>simpa using h
       rintro ⟨c,hc,h⟩
       cases hv:s d with
       | bool b=>
         rw [hv] at hc
         simp only [Option.some.injEq] at hc
         subst hc
         have hu:=zen hv
         refine ⟨b,rfl,?_⟩
         cases b<;>cases want<;>simp only [cond_true,cond_false,if_true,Bool.false_eq_true,if_false,hu]<;>simpa using h
       | tuple a=>rw [hv] at hc;simp only at hc;cases h0:Nat.beq a.size 0<;>rw [h0] at hc<;>simp at hc
       | _=>rw [hv] at hc;simp at hc
     | some g'=>
       simp only [zrR]
       constructor
       · rintro (⟨b,hb,h⟩ | ⟨hb,h⟩)
         · have hu:=zen hb
           refine ⟨b == want,by simp [hb],?_⟩
           cases b<;>cases want<;>simp only [cond_true,cond_false,if_true,Bool.false_eq_true,if_false,hu] at h ⊢<;>simpa using h
         have hu:=zen hb
         rw [hu] at h
         exact ⟨false,by rw [hb];rfl,by simpa using h⟩
       rintro ⟨c,hc,h⟩
       cases hv:s d with
       | bool b=>
         rw [hv] at hc
         simp only [Option.some.injEq] at hc
         subst hc
         have hu:=zen hv
         refine .inl ⟨b,rfl,?_⟩
         cases b<;>cases want<;>simp only [cond_true,cond_false,if_true,Bool.false_eq_true,if_false,hu]<;>simpa using h
       | tuple a=>
         rw [hv] at hc
         simp only at hc
         cases h0:Nat.beq a.size 0 with
         | false=>rw [h0] at hc;simp at hc
         | true=>
           rw [h0] at hc
           simp only [cond_true,Option.some.injEq] at hc
           subst hc
           have ha:a=#[]:=Array.size_eq_zero_iff.1 (Nat.eq_of_beq_eq_true h0)
           subst ha
           have hu:upd s d undef=s:=zen hv
           refine .inr ⟨rfl,?_⟩
           rw [hu]
           simpa using h
       | _=>rw [hv] at hc;simp at hc
theorem zqp {P:Program} {ext:Xt} {o:Oper} {flag:Bool} {s:Env} {w:World} {K K':Env→World→Prop} (hk:∀ s w,K s w→K' s w)
   (h:opF P ext o flag s w K):opF P ext o flag s w K':=by
 refine zf3 (fun v w' hh=>?_) h
 cases flag
 · exact hk _ _ hh
 exact ⟨hh.1,hk _ _ hh.2⟩
theorem znO {P:Program} {ext:Xt} {ol:List Oper} {fl i:Nat} {s:Env} {w:World} {K K':Env→World→Prop} (hk:∀ s w,K s w→K' s w)
   (h:zeU P ext ol fl i s w K):zeU P ext ol fl i s w K':=by
 cases ho:nth ol i with
 | none=>simp [zeU,ho] at h
 | some o=>
   rw [zcD ho] at h ⊢
   obtain ⟨b,hb,h⟩:=h
   refine ⟨b,hb,?_⟩
   cases b
   · exact hk _ _ h
   exact zqp hk h
theorem zoI {ops:Array Oper} {o:Oper} {s:Env} {x:Option Nat} {v:Value} (h:∀ d,x=some d→d∉o.looksAt ops):gOk ops.toList o (put s x v)=gOk ops.toList o s:=by
 unfold gOk
 cases hg:o.guard with
 | none=>rfl
 | some g=>
   obtain ⟨j,want⟩:=g
   simp only
   cases hd:(nth ops.toList j).bind (·.dst) with
   | none=>rfl
   | some t=>
     have:put s x v t=s t:=zoF fun d hx e=>h d hx (by subst e;rw [zcy] at hd;simp [Oper.looksAt,hg,hd])
     simp only [this]
theorem zrm {ops:Array Oper} {o:Oper} {s:Env} {x:Option Nat} {v:Value} (h:∀ d,x=some d→d∉o.looksAt ops):∀ y∈o.op.operands,ev (put s x v) y=ev s y:=by
 intro y hy
 cases y with
 | tmp t=>
   show put s x v t=s t
   exact zoF fun d hx e=>h d hx (by subst e;exact List.mem_append_left _ (List.mem_filterMap.2 ⟨.tmp t,by simpa using hy,rfl⟩))
 | _=>rfl
theorem zur {P:Program} {ext:Xt} {ops:Array Oper} {fl x y:Nat} {ox oy:Oper} {s:Env} {w:World} {K:Env→World→Prop}
   (hx:nth ops.toList x=some ox) (hy:nth ops.toList y=some oy) (hr:zlS ox=true) (hfx:zbi fl x=false) (hap:ox.apart ops oy=true) (hf:zlS oy=true∨zbi fl y=true∨zdj ox=true)
   (h:zeU P ext ops.toList fl x s w fun s w=>zeU P ext ops.toList fl y s w K) :
   zeU P ext ops.toList fl y s w fun s w=>zeU P ext ops.toList fl x s w K:=by
 obtain ⟨h1,h2,h3⟩:=Oper.apart_spec hap
 rw [zcD hx] at h
 obtain ⟨bx,hbx,h⟩:=h
 -- what the reading operation yields, here and later
 have key:∃ v,(∀ s2 w2,(ext.rel w w2∨zdj ox=true)→(gOk ops.toList ox s2=gOk ops.toList ox s)→(∀ z∈ox.op.operands,ev s2 z=ev s z)→K (put s2 ox.dst v) w2→zeU P ext ops.toList fl x s2 w2 K) ∧
     zeU P ext ops.toList fl y (put s ox.dst v) w K:=by
   cases bx with
   | false=>
     refine ⟨undef,fun s2 w2 _ hg _ hk=>?_,h⟩
     rw [zcD hx]
     exact ⟨false,by rw [hg,hbx],hk⟩
   | true=>
     simp only [if_true] at h
     obtain ⟨v,hv,hk⟩:=(zf4 hr).1 h
     rw [hfx] at hk
     refine ⟨v,fun s2 w2 hxt hg he hk2=>?_,hk⟩
     rw [zcD hx]
     refine ⟨true,by rw [hg,hbx],?_⟩
     rw [hfx]
     simp only [if_true]
     unfold opF
     have hvc:=zqo (fun z hz=>(he z hz).symm) hr hv
     rcases hxt with hxt | hxt
     · exact (zf4 hr).2 ⟨v,zs6 hvc hxt,hk2⟩
     exact (zf4 hr).2 ⟨v,zrQ hxt hvc,hk2⟩
 obtain ⟨v,hback,hyk⟩:=key
 rw [zcD hy] at hyk ⊢
 obtain ⟨b,hb,hyk⟩:=hyk
 rw [zoI (fun d hd=>h1 d hd)] at hb
 refine ⟨b,hb,?_⟩
 have fin:∀ u w2,(ext.rel w w2∨zdj ox=true)→K (put (put s ox.dst v) oy.dst u) w2→zeU P ext ops.toList fl x (put s oy.dst u) w2 K:=by
   intro u w2 hxt hk
   refine hback _ _ hxt (zoI fun d hd=>h3 d hd) (zrm fun d hd=>h3 d hd) ?_
   rw [←zqm s v u h2];exact hk
 cases b with
 | false=>exact fin _ _ (.inl (ext.rel_refl w)) hyk
 | true=>
   simp only [if_true] at hyk ⊢
   unfold opF at hyk ⊢
   have hyk:=zkH (ρ':=ev s) (zrm fun d hd=>h1 d hd) hyk
   rcases hf with hf | hf | hf
   · obtain ⟨u,hu,hk⟩:=(zf4 hf).1 hyk
     refine (zf4 hf).2 ⟨u,hu,?_⟩
     cases hm:zbi fl y<;>rw [hm] at hk
     · exact fin _ _ (.inl (ext.rel_refl w)) hk
     exact ⟨hk.1,fin _ _ (.inl hk.1) hk.2⟩
   · refine zf3 (fun u w2 hk=>?_) hyk
     rw [hf] at hk ⊢
     exact ⟨hk.1,fin _ _ (.inl hk.1) hk.2⟩
   refine zf3 (fun u w2 hk=>?_) hyk
   cases hm:zbi fl y<;>rw [hm] at hk
   · exact fin _ _ (.inr hf) hk
   exact ⟨hk.1,fin _ _ (.inr hf) hk.2⟩
theorem znP {P:Program} {ext:Xt} {ops:Array Oper} {fl y:Nat} {oy:Oper} {K:Env→World→Prop} (hy:nth ops.toList y=some oy) (c2:List Nat) :
   ∀ (c1:List Nat) (s:Env) (w:World),(∀ x∈c1,∃ ox,nth ops.toList x=some ox∧zlS ox=true∧zbi fl x=false∧ox.apart ops oy=true∧(zlS oy=true∨zbi fl y=true∨zdj ox=true)) →
     zf0 P ext ops.toList fl K (c1++y :: c2) s w→zf0 P ext ops.toList fl K (y :: (c1++c2)) s w:=by
 intro c1
 induction c1 with
 | nil=>intro s w _ h;exact h
 | cons x c1 ih=>
   intro s w hc h
   obtain ⟨ox,hx,hr,hfx,hap,hf⟩:=hc x (by simp)
   refine zur hx hy hr hfx hap hf ?_
   exact znO (fun s w hk=>ih s w (fun z hz=>hc z (by simp [hz])) hk) h
structure Kept (n:Nat) (ds:List Nat) (a a':Act):Prop where
 size:a'.tmps.size=n
 defers:a'.defers=a.defers
 env:∀ t,t∉ds→za3 a' t=za3 a t
theorem Kept.refl {n:Nat} {a:Act} (ds:List Nat) (h:a.tmps.size=n):Kept n ds a a:=⟨h,rfl,fun _ _=>rfl⟩
theorem Kept.trans {n:Nat} {d1 d2 ds:List Nat} {a b c:Act} (h:Kept n d1 a b) (k:Kept n d2 b c) (h1:∀ t,t∈d1→t∈ds) (h2:∀ t,t∈d2→t∈ds):Kept n ds a c:=
 ⟨k.size,k.defers.trans h.defers,fun t ht=>(k.env t fun e=>ht (h2 t e)).trans (h.env t fun e=>ht (h1 t e))⟩
def zhT (ol:List Oper):List Nat:=ol.filterMap (·.dst)
def zlT (ext:List Nat) (N n:Nat) (ol:List Oper):Bool:=ol.all fun o=>zmT ext N o&&(match o.dst with | some d=>Nat.blt d n | none=>true)
theorem zqq {ext:Xt} {N n:Nat} {ol:List Oper} (h:zlT ext.l N n ol=true) {i:Nat} {o:Oper} (ho:nth ol i=some o) :
   zmT ext.l N o=true∧(∀ d,o.dst=some d→d<n)∧(∀ d,o.dst=some d→d∈zhT ol):=by
 rw [zfw] at ho
 have hm:=List.mem_of_getElem? ho
 have h1:=List.all_eq_true.1 h o hm
 simp only [Bool.and_eq_true] at h1
 refine ⟨h1.1,fun d hd=>?_,fun d hd=>List.mem_filterMap.2 ⟨o,hm,hd⟩⟩
 have h2:=h1.2
 rw [hd] at h2
 exact Nat.le_of_ble_eq_true h2
theorem znQ {ops:Array Oper} {o:Oper} {a:Act} {b:Bool} (h:gOk ops.toList o (za3 a)=some b):Region.wanted o (yielded ops a.tmps)=b:=by
 unfold gOk at h
 unfold Region.wanted
 cases hg:o.guard with
 | none=>rw [hg] at h;simpa using h
 | some g=>
   obtain ⟨j,want⟩:=g
   rw [hg] at h
   simp only at h ⊢
   rw [zcy] at h
   unfold yielded
   cases hd:(ops[j]?).bind (·.dst) with
   | none=>rw [hd] at h;simp at h
   | some d=>
     rw [hd] at h
     simp only [Option.bind_some] at h ⊢
     cases hv:a.tmps[d]? with
     | none=>
       have:za3 a d=undef:=by simp [za3,hv]
       rw [this] at h
       simp only [undef] at h
       cases hgj:(ops[j]?).bind (·.guard) with
       | none=>rw [hgj] at h;simp at h
       | some g'=>
         rw [hgj] at h
         simp at h
         rw [h]
         rfl
     | some v=>
       have:za3 a d=v:=by simp [za3,hv]
       rw [this] at h
       cases v with
       | bool c=>simp only [Option.some.injEq] at h;subst h;cases c<;>cases want<;>rfl
       | tuple a=>
         simp only at h
         cases h0:Nat.beq a.size 0 with
         | false=>rw [h0] at h;simp at h
         | true=>
           rw [h0] at h
           simp only [cond_true] at h
           cases hgj:(ops[j]?).bind (·.guard) with
           | none=>rw [hgj] at h;simp at h
           | some g'=>
             rw [hgj] at h
             simp only [Option.some.injEq] at h
             subst h
             rfl
       | _=>simp at h
section
variable {P:Program} {ext:Xt} {N n:Nat} (hE:∀ f,f<N→ext.l.elem f=false→zeW P f=true)
include hE
theorem zeo {ops:Array Oper} {fl i:Nat} {a:Act} {w:World} {K:Env→World→Prop} {M:Act→World→Prop} {Q:Exit→Act→World→Prop}
   (hok:zlT ext.l N n ops.toList=true) (hn:a.tmps.size=n) (h:zeU P ext ops.toList fl i (za3 a) w K)
   (hM:∀ a' w',Kept n (zhT ops.toList) a a'→K (za3 a') w'→M a' w'):wpOp P ops Q i M a w:=by
 cases ho:nth ops.toList i with
 | none=>simp [zeU,ho] at h
 | some o=>
   obtain ⟨hc,hd,hm⟩:=zqq hok ho
   have hput:∀ v,za3 (a.put o.dst v)=put (za3 a) o.dst v:=fun v=>zoG fun t ht=>by rw [hn];exact hd t ht
   have hkept:∀ v,Kept n (zhT ops.toList) a (a.put o.dst v):=fun v=>
     ⟨by rw [zqn,hn],zrO a _ v,fun t ht=>by rw [hput];exact zoF fun d hd e=>ht (e▸hm d hd)⟩
   rw [zcD ho] at h
   obtain ⟨b,hb,h⟩:=h
   unfold wpOp
   rw [←zcy,ho]
   simp only [znQ hb]
   cases b with
   | false=>
     simp only [Bool.false_eq_true,if_false] at h ⊢
     exact hM _ _ (hkept _) (by rw [hput];exact h)
   | true=>
     simp only [if_true] at h ⊢
     refine .inl ?_
     unfold opF at h
     rw [zmS] at h
     refine Oper.wp_mono (fun a' w'=>?_) (zoH hE hc h)
     rintro ⟨v,rfl,hk⟩
     refine hM _ _ (hkept v) ?_
     rw [hput]
     cases hf:zbi fl i<;>rw [hf] at hk
     · exact hk
     exact hk.2
theorem zlU {ops:Array Oper} {fl:Nat} {K:Env→World→Prop} {Q:Exit→Act→World→Prop} (hok:zlT ext.l N n ops.toList=true) :
   ∀ (l:List Nat) (a:Act) (w:World),a.tmps.size=n→zf0 P ext ops.toList fl K l (za3 a) w →
     (∀ a' w',Kept n (zhT ops.toList) a a'→K (za3 a') w'→Q .normal a' w')→wpOps P ops Q l a w:=by
 intro l
 induction l with
 | nil=>intro a w hn h hq;exact hq a w (.refl _ hn) h
 | cons i l ih=>
   intro a w hn h hq
   rw [wpOps_cons]
   exact zeo hE hok hn h fun a' w' hk hh=>ih a' w' hk.size hh fun a'' w'' hk' hh'=>hq a'' w'' (hk.trans hk' (fun _ h=>h) (fun _ h=>h)) hh'
end
def zlV:List Oper→List Nat→List Nat
 | [],acc=>acc
 | o :: r,acc=>zlV r (acc++[o.after.toList.foldl (fun m e=>bif Region.binds .any e then Nat.lor (Nat.lor m (Nat.shiftLeft 1 e.on)) (match nth acc e.on with | some k=>k | none=>0) else m) 0])
def zqr (ol:List Oper):List Nat:=zlV ol []
def zdX (A:List Nat) (j:Nat):Nat:=match nth A j with | some k=>k | none=>0
theorem zrS {A:List Nat} {l:List Edge} {m i:Nat}
   (h:Nat.testBit (l.foldl (fun m e=>bif Region.binds .any e then Nat.lor (Nat.lor m (Nat.shiftLeft 1 e.on)) (zdX A e.on) else m) m) i=true) :
   Nat.testBit m i=true∨∃ e∈l,Region.binds .any e=true∧(e.on=i∨Nat.testBit (zdX A e.on) i=true):=by
 induction l generalizing m with
 | nil=>exact .inl h
 | cons e l ih=>
   rcases ih h with h | ⟨e',he,hb,hh⟩
   · dsimp only at h
     cases hb:Region.binds .any e with
     | false=>rw [hb] at h;exact .inl h
     | true=>
       rw [hb] at h
       simp only [cond_true] at h
       change Nat.testBit ((m ||| (1 <<< e.on)) ||| zdX A e.on) i=true at h
       simp only [Nat.testBit_or,Bool.or_eq_true] at h
       rcases h with (h | h) | h
       · exact .inl h
       · refine .inr ⟨e,by simp,hb,.inl ?_⟩
         rw [Nat.one_shiftLeft,Nat.testBit_two_pow] at h
         simpa using h
       exact .inr ⟨e,by simp,hb,.inr h⟩
   exact .inr ⟨e',by simp [he],hb,hh⟩
theorem zcE {α:Type} {l r:List α} {j:Nat} (h:j<l.length):nth (l++r) j=nth l j:=by
 rw [zfw,zfw,List.getElem?_append_left h]
theorem znR:∀ (ol:List Oper) (pre:List Oper) (acc:List Nat),acc.length=pre.length →
   (∀ j o,nth pre j=some o→∀ i,Nat.testBit (zdX acc j) i=true→∃ e∈o.after,Region.binds .any e=true∧(e.on=i∨(e.on<j∧Nat.testBit (zdX acc e.on) i=true))) →
   (zlV ol acc).length=(pre++ol).length ∧
   ∀ j o,nth (pre++ol) j=some o→∀ i,Nat.testBit (zdX (zlV ol acc) j) i=true→∃ e∈o.after,Region.binds .any e=true∧(e.on=i∨(e.on<j∧Nat.testBit (zdX (zlV ol acc) e.on) i=true)):=by
 intro ol
 induction ol with
 | nil=>intro pre acc hl h;simpa [zlV] using ⟨hl,h⟩
 | cons o r ih=>
   intro pre acc hl h
   have step:=ih (pre++[o]) (acc++[o.after.toList.foldl (fun m e=>bif Region.binds .any e then Nat.lor (Nat.lor m (Nat.shiftLeft 1 e.on)) (match nth acc e.on with | some k=>k | none=>0) else m) 0]) (by simp [hl]) ?_
   · simpa [zlV] using step
   intro j p hp i hi
   rcases Nat.lt_trichotomy j pre.length with hj | hj | hj
   · rw [zcE hj] at hp
     have hja:j<acc.length:=by omega
     have hi':Nat.testBit (zdX acc j) i=true:=by simpa only [zdX,zcE hja] using hi
     obtain ⟨e,he,hb,hh⟩:=h j p hp i hi'
     refine ⟨e,he,hb,hh.imp id fun ⟨h1,h2⟩=>⟨h1,?_⟩⟩
     simpa only [zdX,zcE (show e.on<acc.length by omega)] using h2
   · subst hj
     have hp':p=o:=by rw [zfw] at hp;simpa using hp.symm
     subst hp'
     have:zdX (acc++[p.after.toList.foldl (fun m e=>bif Region.binds .any e then Nat.lor (Nat.lor m (Nat.shiftLeft 1 e.on)) (match nth acc e.on with | some k=>k | none=>0) else m) 0]) pre.length=p.after.toList.foldl (fun m e=>bif Region.binds .any e then Nat.lor (Nat.lor m (Nat.shiftLeft 1 e.on)) (zdX acc e.on) else m) 0:=by
       unfold zdX
       rw [zfw,←hl]
       simp
     rw [this] at hi
     rcases zrS hi with h0 | ⟨e,he,hb,hh⟩
     · simp at h0
     refine ⟨e,by simpa using he,hb,hh.imp id fun h2=>?_⟩
     have hlt:e.on<acc.length:=by
       rcases Nat.lt_or_ge e.on acc.length with h' | h'
       · exact h'
       have:zdX acc e.on=0:=by unfold zdX;rw [zfw,List.getElem?_eq_none h']
       rw [this] at h2;simp at h2
     exact ⟨by omega,by simpa only [zdX,zcE hlt] using h2⟩
   have:nth (pre++[o]) j=none:=by rw [zfw];simp;omega
   rw [this] at hp;cases hp
theorem zoJ (ol:List Oper) (j:Nat) (o:Oper) (ho:nth ol j=some o) (i:Nat) (h:Nat.testBit (zdX (zqr ol) j) i=true) :
   ∃ e∈o.after,Region.binds .any e=true∧(e.on=i∨(e.on<j∧Nat.testBit (zdX (zqr ol) e.on) i=true)):=
 (znR ol [] [] rfl (by intro j o h;simp [nth] at h)).2 j o ho i h
end Go.Sh
namespace Go.Sh
open Go.RowKit (Below)
def zi2:List Nat→Bool
 | []=>true
 | x :: l=>!l.elem x&&zi2 l
def zsW (ol:List Oper):List Nat→List Nat→Bool
 | _,[]=>true
 | seen,i :: r=>(match nth ol i with | some o=>o.after.toList.all fun e=>!Region.binds .any e || seen.elem e.on | none=>false)&&zsW ol (i :: seen) r
def zoK (ops:Array Oper) (A:List Nat) (fl i j:Nat):Bool:=
 zbi (zdX A j) i || (match nth ops.toList i,nth ops.toList j with
   | some oi,some oj=>zlS oi&&!zbi fl i&&oi.apart ops oj&&(zlS oj || (zbi fl j || zdj oi))
   | _,_=>false)
def zfx (ops:Array Oper) (A:List Nat) (fl:Nat):List Nat→Bool
 | []=>true
 | i :: r=>r.all (zoK ops A fl i)&&zfx ops A fl r
def zrn (ops:Array Oper) (c:List Nat) (fl:Nat):Bool:=
 zi2 c&&(c.all fun i=>Nat.blt i ops.size)&&((List.range ops.size).all fun i=>c.elem i)&&zsW ops.toList [] c&&zfx ops (zqr ops.toList) fl c
theorem zep:∀ {l:List Nat},zi2 l=true→l.Nodup
 | [],_=>List.nodup_nil
 | x :: l,h=>by
   simp only [zi2,Bool.and_eq_true,Bool.not_eq_true'] at h
   refine List.nodup_cons.2 ⟨fun hm=>?_,zep h.2⟩
   have:l.elem x=true:=List.elem_eq_true_of_mem hm
   rw [h.1] at this;cases this
theorem zf5 {ops:Array Oper} {A:List Nat} {fl:Nat}:∀ {c1 c2:List Nat} {y:Nat},zfx ops A fl (c1++y :: c2)=true →
   (∀ x∈c1,zoK ops A fl x y=true)∧zfx ops A fl (c1++c2)=true
 | [],c2,y,h=>by
   simp only [List.nil_append,zfx,Bool.and_eq_true] at h
   exact ⟨by simp,h.2⟩
 | x :: c1,c2,y,h=>by
   simp only [List.cons_append,zfx,Bool.and_eq_true,List.all_eq_true] at h
   obtain ⟨h1,h2⟩:=zf5 h.2
   refine ⟨fun z hz=>?_,?_⟩
   · rcases List.mem_cons.1 hz with rfl | hz
     · exact h.1 y (by simp)
     exact h1 z hz
   simp only [List.cons_append,zfx,Bool.and_eq_true,List.all_eq_true]
   exact ⟨fun z hz=>h.1 z (by rcases List.mem_append.1 hz with hz | hz<;>simp [hz]),h2⟩
structure Closed (ops:Array Oper) (listed:Array Bool):Prop where
 size:listed.size=ops.size
 down:∀ j o,ops[j]?=some o→listed.getD j false=true→∀ e∈o.after,Region.binds .any e=true→listed.getD e.on false=true
theorem zi3 {ops:Array Oper} {listed:Array Bool} (hc:Closed ops listed):∀ (j:Nat) (o:Oper),ops[j]?=some o →
   (∀ e∈o.after,Region.binds .any e=true→listed.getD e.on false=true)→∀ i,Nat.testBit (zdX (zqr ops.toList) j) i=true→listed.getD i false=true:=by
 intro j
 induction j using Nat.strongRecOn with
 | _ j ih=>
   intro o ho hd i hi
   obtain ⟨e,he,hb,hh⟩:=zoJ ops.toList j o (by rw [zcy];exact ho) i hi
   have hl:=hd e he hb
   rcases hh with rfl | ⟨hlt,hh⟩
   · exact hl
   cases ho':ops[e.on]? with
   | none=>
     have:e.on<ops.size:=Nat.lt_trans hlt (Array.getElem?_eq_some_iff.1 ho).1
     simp at ho'
     omega
   | some o'=>exact ih e.on hlt o' ho' (fun e' he' hb'=>hc.down e.on o' ho' hl e' he' hb') i hh
def Top (ops:Array Oper) (listed:Array Bool):List Nat→Prop
 | []=>True
 | i :: r=>(∃ o,ops[i]?=some o∧∀ e∈o.after,Region.binds .any e=true→listed.getD e.on false=true)∧Top ops (listed.setIfInBounds i true) r
theorem zjz {ops:Array Oper}:∀ {c1 c2:List Nat} {y:Nat} {l:Array Bool},Top ops l (c1++y :: c2)→Top ops (l.setIfInBounds y true) (c1++c2)
 | [],_,_,_,h=>h.2
 | x :: c1,c2,y,l,⟨⟨o,ho,hd⟩,ht⟩=>by
   refine ⟨⟨o,ho,fun e he hb=>getD_set_true (hd e he hb)⟩,?_⟩
   have h2:=zjz ht
   by_cases hxy:x=y
   · subst hxy;exact h2
   rw [Array.setIfInBounds_comm _ _ (Ne.symm hxy)];exact h2
theorem zf6 {ops:Array Oper}:∀ {c seen:List Nat} {l:Array Bool},(∀ k,seen.elem k=true→l.getD k false=true)→(∀ i∈c,i<l.size)→zsW ops.toList seen c=true→Top ops l c
 | [],_,_,_,_,_=>trivial
 | i :: c,seen,l,h,hc,ht=>by
   simp only [zsW,Bool.and_eq_true] at ht
   cases ho:nth ops.toList i with
   | none=>simp [ho] at ht
   | some o=>
     simp only [ho,List.all_eq_true,Bool.or_eq_true,Bool.not_eq_true'] at ht
     rw [zcy] at ho
     refine ⟨⟨o,ho,fun e he hb=>h _ ((ht.1 e (by simpa using he)).resolve_left (by simp [hb]))⟩,zf6 (seen:=i :: seen) (fun k hk=>?_) (fun j hj=>by simpa using hc j (by simp [hj])) ht.2⟩
     by_cases hik:i=k
     · subst hik;simp [hc i (by simp)]
     rw [getD_set_ne false hik]
     refine h k ?_
     have hm:k∈i :: seen:=List.mem_of_elem_eq_true hk
     rcases List.mem_cons.1 hm with e | hm
     · exact absurd e.symm hik
     exact List.elem_eq_true_of_mem hm
section
variable {P:Program} {ext:Xt} {N n:Nat} (hE:∀ f,f<N→ext.l.elem f=false→zeW P f=true)
include hE
theorem zgJ {ops:Array Oper} {fl:Nat} {K:Env→World→Prop} {Q:Exit→Act→World→Prop} (hok:zlT ext.l N n ops.toList=true) :
   ∀ (fuel:Nat) (c:List Nat) (listed:Array Bool) (a:Act) (w:World),c.length=fuel→c.Nodup→(∀ j,j∈c↔listed.getD j true=false)→Closed ops listed→Top ops listed c →
     zfx ops (zqr ops.toList) fl c=true→a.tmps.size=n→zf0 P ext ops.toList fl K c (za3 a) w →
     (∀ a' w',Kept n (zhT ops.toList) a a'→K (za3 a') w'→Q .normal a' w')→wpAny P .any ops Q fuel listed a w:=by
 intro fuel
 induction fuel with
 | zero=>
   intro c listed a w hl hnd hc hcl ht hp hn h hq
   have hnil:c=[]:=List.eq_nil_of_length_eq_zero hl
   subst hnil
   refine ⟨?_,hq a w (.refl _ hn) h⟩
   rw [List.eq_nil_iff_forall_not_mem]
   intro j hj
   exact absurd ((hc j).2 (mem_ready.1 hj).1) (by simp)
 | succ fuel ih=>
   intro c listed a w hl hnd hc hcl ht hp hn h hq
   refine ⟨fun hnone=>?_,fun y hy=>?_⟩
   · cases c with
     | nil=>simp at hl
     | cons i r=>
       obtain ⟨⟨o,ho,hd⟩,_⟩:=ht
       have:i∈Region.ready .any ops listed:=mem_ready.2 ⟨(hc i).1 (by simp),o,ho,hd⟩
       rw [hnone] at this;cases this
   obtain ⟨hun,oy,hoy,hdeps⟩:=mem_ready.1 hy
   have hyc:y∈c:=(hc y).2 hun
   obtain ⟨c1,c2,rfl⟩:=List.append_of_mem hyc
   have hoy':nth ops.toList y=some oy:=by rw [zcy];exact hoy
   obtain ⟨hp1,hp2⟩:=zf5 hp
   have hmove:∀ x∈c1,∃ ox,nth ops.toList x=some ox∧zlS ox=true∧zbi fl x=false∧ox.apart ops oy=true∧(zlS oy=true∨zbi fl y=true∨zdj ox=true):=by
     intro x hx
     have hpair:=hp1 x hx
     unfold zoK at hpair
     rw [Bool.or_eq_true] at hpair
     rcases hpair with hb | hb
     · exfalso
       rw [zd3] at hb
       have h1:=zi3 hcl y oy hoy hdeps x hb
       have h2:=(hc x).1 (by simp [hx])
       rcases Nat.lt_or_ge x listed.size with h' | h'
       · simp [h'] at h1 h2;rw [h1] at h2;cases h2
       simp [Array.getElem?_eq_none h'] at h1
     rw [hoy'] at hb
     cases hox:nth ops.toList x with
     | none=>simp [hox] at hb
     | some ox=>
       simp only [hox,Bool.and_eq_true,Bool.not_eq_true',Bool.or_eq_true] at hb
       exact ⟨ox,rfl,hb.1.1.1,hb.1.1.2,hb.1.2,hb.2⟩
   have h':=znP hoy' c2 c1 (za3 a) w hmove h
   refine zeo hE hok hn h' fun a' w' hk hh=>?_
   have hylt:y<listed.size:=by
     rcases Nat.lt_or_ge y listed.size with h' | h'
     · exact h'
     simp [Array.getElem?_eq_none h'] at hun
   have hnd':=hnd
   rw [List.nodup_append] at hnd'
   refine ih (c1++c2) (listed.setIfInBounds y true) a' w' (by simp at hl ⊢;omega) ?_ ?_ ⟨by simp [hcl.size],?_⟩ (zjz ht) hp2 hk.size hh ?_
   · have:=hnd.sublist (l₁:=c1++c2) (List.Sublist.append_left (List.sublist_cons_self y c2) c1)
     exact this
   · intro j
     by_cases hjy:y=j
     · subst hjy
       have hnot:y∉c1++c2:=by
         intro hm
         rcases List.mem_append.1 hm with hm | hm
         · exact hnd'.2.2 y hm y (by simp) rfl
         exact (List.nodup_cons.1 hnd'.2.1).1 hm
       simp [hnot,hylt]
     rw [getD_set_ne true hjy,←hc j]
     simp only [List.mem_append,List.mem_cons]
     constructor
     · rintro (h | h)<;>simp [h]
     rintro (h | h | h)
     · exact .inl h
     · exact absurd h.symm hjy
     exact .inr h
   · intro j o ho hj e he hb
     by_cases hjy:y=j
     · subst hjy
       rw [hoy] at ho;cases ho
       exact getD_set_true (hdeps e he hb)
     rw [getD_set_ne false hjy] at hj
     exact getD_set_true (hcl.down j o ho hj e he hb)
   exact fun a'' w'' hk' hh'=>hq a'' w'' (hk.trans hk' (fun _ h=>h) (fun _ h=>h)) hh'
end
def ztH (ops:Array Oper) (A:List Nat) (p i k:Nat):Bool:=
 zbi (zdX A k) i || (match nth ops.toList i,nth ops.toList k with
   | some oi,some ok=>bif Nat.ble p k then Nat.blt i p&&(zdj oi&&oi.apart ops ok) else !(zdj oi&&zdj ok) || oi.apart ops ok
   | _,_=>false)
def zjA (ops:Array Oper) (m p:Nat):Bool:=
 Nat.ble p ops.size&&zi2 (zhT ops.toList)&&(ops.toList.all fun o=>o.guard.isNone)&&((zhT ops.toList).all fun t=>zbi m t)&&((ops.toList.take p).all fun o=>o.dst.isSome) &&
   zsW ops.toList [] (List.range ops.size)&&((List.range ops.size).all fun k=>(List.range k).all fun i=>ztH ops (zqr ops.toList) p i k)
theorem zhU {P:Program} {ext:Xt} {ol:List Oper} {m:Nat} {s:Env} {w:World} {Q:ParQ}:∀ {l:List Oper} {k:Nat},zfg P ext ol m s w Q k l →
   ∀ i o,l[i]?=some o→∀ (u:Env) (T:Nat→Nat×Nat) (w1:World),Ext w w1→zbf (onL o.after.toList) w.heap.size w1.heap.size T→zhm Q u T w1 o.after.toList →
     opK P ext o (ev (mix m s u)) w1 (fun v w2=>Ext w1 w2∧Q (k+i) (upd u (ziW ol (k+i)) v) (zcx T (k+i) (w1.heap.size,w2.heap.size)) w2)
 | [],_,_,i,o,ho=>by simp at ho
 | x :: l,k,h,0,o,ho=>by
   simp only [List.getElem?_cons_zero,Option.some.injEq] at ho
   subst ho
   exact h.1
 | x :: l,k,h,i+1,o,ho=>by
   have:=zhU h.2 i o (by simpa using ho)
   rwa [show k+(i+1)=k+1+i by omega]
theorem zhV {Q:ParQ} {u:Env} {T:Nat→Nat×Nat} {w:World}:∀ {n k:Nat},(∀ i,i<n→Q (k+i) u T w)→zhS Q u T w k n
 | 0,_,_=>trivial
 | n+1,k,h=>⟨h 0 (by omega),zhV fun i hi=>by have:=h (i+1) (by omega);rwa [show k+1+i=k+(i+1) by omega]⟩
theorem zf7 {Q:ParQ} {u:Env} {T:Nat→Nat×Nat} {w:World}:∀ {l:List Edge},(∀ e∈l,Region.binds .any e=true→Q e.on u T w)→zhm Q u T w l
 | [],_=>trivial
 | e :: l,h=>by
   simp only [zhm]
   cases hb:Region.binds .any e
   · exact zf7 fun x hx=>h x (by simp [hx])
   exact ⟨h e (by simp) hb,zf7 fun x hx=>h x (by simp [hx])⟩
theorem zjB:∀ {l:List Edge} {i:Nat},i∈onL l→∃ e∈l,Region.binds .any e=true∧e.on=i
 | [],_,h=>by simp [onL] at h
 | e :: l,i,h=>by
   simp only [onL] at h
   cases hb:Region.binds .any e
   · rw [hb] at h
     obtain ⟨x,hx,h2⟩:=zjB (l:=l) h
     exact ⟨x,by simp [hx],h2⟩
   rw [hb] at h
   simp only [cond_true,List.mem_cons] at h
   rcases h with rfl | h
   · exact ⟨e,by simp,hb,rfl⟩
   obtain ⟨x,hx,h2⟩:=zjB (l:=l) h
   exact ⟨x,by simp [hx],h2⟩
theorem zlW {ol:List Oper}:∀ {l:List Edge} {p:Nat×Nat},p∈onD ol l→p.2=ziW ol p.1∧∃ e∈l,Region.binds .any e=true∧e.on=p.1
 | [],_,h=>by simp [onD] at h
 | e :: l,p,h=>by
   simp only [onD] at h
   cases hb:Region.binds .any e
   · rw [hb] at h
     obtain ⟨h0,x,hx,h2⟩:=zlW (l:=l) h
     exact ⟨h0,x,by simp [hx],h2⟩
   rw [hb] at h
   simp only [cond_true,List.mem_cons] at h
   rcases h with rfl | h
   · exact ⟨rfl,e,by simp,hb,rfl⟩
   obtain ⟨h0,x,hx,h2⟩:=zlW (l:=l) h
   exact ⟨h0,x,by simp [hx],h2⟩
theorem zkI {ol:List Oper}:∀ {l:List Oper} {k i:Nat} {p:Nat×Nat},p∈zlP (zf1 ol k l) i→p.2=ziW ol p.1∧∃ o,l[i]?=some o∧(p.1=k+i∨∃ e∈o.after.toList,Region.binds .any e=true∧e.on=p.1)
 | [],_,_,_,h=>by simp [zf1,zlP,nth] at h
 | o :: l,k,0,p,h=>by
   simp only [zf1,zlP,nth,List.mem_cons] at h
   rcases h with rfl | h
   · exact ⟨rfl,o,rfl,.inl rfl⟩
   obtain ⟨h0,h1⟩:=zlW h
   exact ⟨h0,o,rfl,.inr h1⟩
 | o :: l,k,i+1,p,h=>by
   have h':p∈zlP (zf1 ol (k+1) l) i:=h
   obtain ⟨h0,o',ho,h1⟩:=zkI h'
   exact ⟨h0,o',by simpa using ho,h1.imp (fun e=>by omega) id⟩
theorem zmU {ol:List Oper} (hn:(zhT ol).Nodup):∀ {i j:Nat} {x y:Oper} {d:Nat},ol[i]?=some x→ol[j]?=some y→x.dst=some d→y.dst=some d→i=j:=by
 induction ol with
 | nil=>intro i j x y d hi;simp at hi
 | cons z l ih=>
   intro i j x y d hi hj hx hy
   have key:∀ {k:Nat} {o:Oper},l[k]?=some o→o.dst=some d→d∈zhT l:=fun hk ho=>List.mem_filterMap.2 ⟨_,List.mem_of_getElem? hk,ho⟩
   have hn':(zhT l).Nodup:=by
     unfold zhT at hn ⊢
     rw [List.filterMap_cons] at hn
     split at hn
     · exact hn
     exact (List.nodup_cons.1 hn).2
   have hz:z.dst=some d→d∉zhT l:=fun hz=>by
     unfold zhT at hn ⊢
     rw [List.filterMap_cons,hz] at hn
     exact (List.nodup_cons.1 hn).1
   cases i with
   | zero=>
     simp only [List.getElem?_cons_zero,Option.some.injEq] at hi
     subst hi
     cases j with
     | zero=>rfl
     | succ j=>exact absurd (key (by simpa using hj) hy) (hz hx)
   | succ i=>
     cases j with
     | zero=>
       simp only [List.getElem?_cons_zero,Option.some.injEq] at hj
       subst hj
       exact absurd (key (by simpa using hi) hx) (hz hy)
     | succ j=>exact congrArg (·+1) (ih hn' (i:=i) (j:=j) (by simpa using hi) (by simpa using hj) hx hy)
theorem zfi {m:Nat} {s u:Env} (h:∀ t,zbi m t=false→u t=s t):mix m s u=u:=by
 funext t
 unfold mix
 cases ht:zbi m t
 · exact (h t ht).symm
 rfl
theorem zeq {n p j:Nat}:j∈(List.range n).drop p↔p≤j∧j<n:=by
 rw [List.mem_drop_iff_getElem]
 constructor
 · rintro ⟨i,hi,he⟩;simp at he hi;omega
 rintro ⟨h1,h2⟩;exact ⟨j-p,by simp;omega,by simp;omega⟩
structure PInv (ops:Array Oper) (p m:Nat) (Q:ParQ) (s0:Env) (w0:World) (c:List Nat) (listed:Array Bool) (s:Env) (T:Nat→Nat×Nat) (w:World):Prop where
 nodup:(c++(List.range ops.size).drop p).Nodup
 mem:∀ j,j∈c++(List.range ops.size).drop p↔listed.getD j true=false
 lt:∀ j∈c,j<p
 sorted:c.Pairwise (· < ·)
 closed:Closed ops listed
 top:Top ops listed (c++(List.range ops.size).drop p)
 ext:Ext w0 w
 env:∀ t,zbi m t=false→s t=s0 t
 t1:∀ j,j<p→listed.getD j false=true→w0.heap.size≤(T j).1∧(T j).1≤(T j).2∧(T j).2≤w.heap.size
 t2:∀ i j,i<p→j<p→listed.getD i false=true→listed.getD j false=true→i≠j→(T i).2≤(T j).1∨(T j).2≤(T i).1
 q:∀ j,j<p→listed.getD j false=true→Q j s T w
section
variable {ops:Array Oper} {p m:Nat} {Q:ParQ} {s0 s:Env} {w0 w w':World} {c c1 c2:List Nat} {listed:Array Bool} {T:Nat→Nat×Nat} {y dy:Nat} {oy:Oper} {v:Value}
theorem PInv.edge (h:PInv ops p m Q s0 w0 c listed s T w) (hdeps:∀ e∈oy.after,Region.binds .any e=true→listed.getD e.on false=true) :
   ∀ e∈oy.after.toList,Region.binds .any e=true→e.on<p∧listed.getD e.on false=true:=fun e he hb=>by
 have hle:=hdeps e (by simpa using he) hb
 have hlt':e.on<ops.size:=by
   rcases Nat.lt_or_ge e.on listed.size with h' | h'
   · rw [h.closed.size] at h';exact h'
   simp [Array.getElem?_eq_none h'] at hle
 refine ⟨?_,hle⟩
 rcases Nat.lt_or_ge e.on p with h' | h'
 · exact h'
 exfalso
 have h2:=(h.mem e.on).1 (List.mem_append_right _ (zeq.2 ⟨h',hlt'⟩))
 have h3:e.on<listed.size:=by rw [h.closed.size];exact hlt'
 simp [h3] at hle h2;rw [hle] at h2;cases h2
theorem PInv.ready (h:PInv ops p m Q s0 w0 c listed s T w) {P:Program} {ext:Xt} (hs:zfg P ext ops.toList m s0 w0 Q 0 (ops.toList.take p)) (hp:zjA ops m p=true)
   (hyp:y<p) (hoy:ops[y]?=some oy) (hdeps:∀ e∈oy.after,Region.binds .any e=true→listed.getD e.on false=true) (hdy:oy.dst=some dy) :
   opK P ext oy (ev s) w (fun v w2=>Ext w w2∧Q y (upd s dy v) (zcx T y (w.heap.size,w2.heap.size)) w2):=by
 have hedge:=h.edge hdeps
 have hon:∀ i∈onL oy.after.toList,i<p∧listed.getD i false=true:=fun i hi=>by
   obtain ⟨e,he,hb,rfl⟩:=zjB hi
   exact hedge e he hb
 have hoyl:ops.toList[y]?=some oy:=by simpa using hoy
 have hin:(ops.toList.take p)[y]?=some oy:=by rw [List.getElem?_take,if_pos hyp];exact hoyl
 have hstep:=zhU hs y oy hin s T w h.ext ⟨fun i hi=>h.t1 i (hon i hi).1 (hon i hi).2,fun i hi j hj hij=>h.t2 i j (hon i hi).1 (hon j hj).1 (hon i hi).2 (hon j hj).2 hij⟩
   (zf7 fun e he hb=>h.q e.on (hedge e he hb).1 (hedge e he hb).2)
 have hdsy:ziW ops.toList y=dy:=by
   unfold ziW
   rw [zcy,hoy]
   simp only [Option.bind_some,hdy]
 rw [zfi h.env] at hstep
 simp only [Nat.zero_add,hdsy] at hstep
 exact hstep
theorem PInv.step (h:PInv ops p m Q s0 w0 (c1++y :: c2) listed s T w) (hp:zjA ops m p=true)
   (st:∀ i u u' T T' w1 w2,Ext w0 w1→Ext w1 w2→(∀ q∈zlP (zf1 ops.toList 0 (ops.toList.take p)) i,u' q.2=u q.2∧T' q.1=T q.1)→Q i u T w1→Q i u' T' w2)
   (hun:listed.getD y true=false) (hoy:ops[y]?=some oy) (hdeps:∀ e∈oy.after,Region.binds .any e=true→listed.getD e.on false=true) (hdy:oy.dst=some dy)
   (hxx:Ext w w') (hQy:Q y (upd s dy v) (zcx T y (w.heap.size,w'.heap.size)) w') :
   PInv ops p m Q s0 w0 (c1++c2) (listed.setIfInBounds y true) (upd s dy v) (zcx T y (w.heap.size,w'.heap.size)) w':=by
 simp only [zjA,Bool.and_eq_true,List.all_eq_true] at hp
 obtain ⟨⟨⟨⟨⟨⟨p1,p2⟩,p3⟩,p4⟩,p5⟩,p6⟩,p7⟩:=hp
 have hdn:=zep p2
 obtain ⟨hnd,hc,hlt,hso,hcl,ht,hx,henv,hT1,hT2,hQ⟩:=h
 have hys:y<ops.size:=(Array.getElem?_eq_some_iff.1 hoy).1
 have hylt:y<listed.size:=by rw [hcl.size];exact hys
 have hoyl:ops.toList[y]?=some oy:=by simpa using hoy
 have hyp:=hlt y (by simp)
 rw [List.append_assoc,List.cons_append] at hnd hc ht
 have hnd2:=hnd
 rw [List.nodup_append] at hnd2
 have hold:∀ j,y≠j→(listed.setIfInBounds y true).getD j false=true→listed.getD j false=true:=fun j hjy hj=>by rwa [getD_set_ne false hjy] at hj
 have hTy:zcx T y (w.heap.size,w'.heap.size) y=(w.heap.size,w'.heap.size):=by simp [zcx]
 have hTo:∀ j,j≠y→zcx T y (w.heap.size,w'.heap.size) j=T j:=fun j hj=>by
   have:Nat.beq j y=false:=by rw [←Bool.not_eq_true,Nat.beq_eq];exact hj
   simp [zcx,this]
 have hdyd:dy∈zhT ops.toList:=List.mem_filterMap.2 ⟨oy,List.mem_of_getElem? hoyl,hdy⟩
 refine ⟨?_,?_,fun j hj=>hlt j (by rcases List.mem_append.1 hj with h | h<;>simp [h]),hso.sublist (List.Sublist.append_left (List.sublist_cons_self y _) c1),⟨by simp [hcl.size],?_⟩,?_,hx.trans hxx,fun t hm=>?_,?_,?_,?_⟩
 · rw [List.append_assoc]
   exact hnd.sublist (List.Sublist.append_left (List.sublist_cons_self y _) c1)
 · intro j
   rw [List.append_assoc]
   by_cases hjy:y=j
   · subst hjy
     have hnot:y∉c1++(c2++(List.range ops.size).drop p):=by
       intro hm
       rcases List.mem_append.1 hm with hm | hm
       · exact hnd2.2.2 y hm y (by simp) rfl
       exact (List.nodup_cons.1 hnd2.2.1).1 hm
     simp only [hnot,false_iff]
     simp [hylt]
   rw [getD_set_ne true hjy,←hc j]
   simp only [List.mem_append,List.mem_cons]
   constructor
   · rintro (h | h | h)
     · exact .inl h
     · exact .inr (.inr (.inl h))
     exact .inr (.inr (.inr h))
   rintro (h | h | h | h)
   · exact .inl h
   · exact absurd h.symm hjy
   · exact .inr (.inl h)
   exact .inr (.inr h)
 · intro j o ho hj e he hb
   by_cases hjy:y=j
   · subst hjy
     rw [hoy] at ho;cases ho
     exact getD_set_true (hdeps e he hb)
   rw [getD_set_ne false hjy] at hj
   exact getD_set_true (hcl.down j o ho hj e he hb)
 · rw [List.append_assoc];exact zjz ht
 · rw [zbN _ _ (fun e=>?_)]
   · exact henv t hm
   subst e;have:=p4 _ hdyd;rw [this] at hm;cases hm
 · intro j hjp hj
   by_cases hjy:j=y
   · rw [hjy,hTy];exact ⟨hx.size,hxx.size,Nat.le_refl _⟩
   rw [hTo j hjy]
   obtain ⟨h1,h2,h3⟩:=hT1 j hjp (hold j (fun e=>hjy e.symm) hj)
   exact ⟨h1,h2,Nat.le_trans h3 hxx.size⟩
 · intro i j hip hjp hi hj hij
   by_cases hiy:i=y
   · have hjy:¬j=y:=fun e=>hij (hiy.trans e.symm)
     rw [hiy,hTy,hTo j hjy]
     exact .inr (hT1 j hjp (hold j (fun e=>hjy e.symm) hj)).2.2
   by_cases hjy:j=y
   · rw [hjy,hTy,hTo i hiy]
     exact .inl (hT1 i hip (hold i (fun e=>hiy e.symm) hi)).2.2
   rw [hTo i hiy,hTo j hjy]
   exact hT2 i j hip hjp (hold i (fun e=>hiy e.symm) hi) (hold j (fun e=>hjy e.symm) hj) hij
 intro j hjp hj
 by_cases hjy:j=y
 · rw [hjy];exact hQy
 have hj':=hold j (fun e=>hjy e.symm) hj
 refine st j s _ T _ w w' hx hxx (fun q hq=>?_) (hQ j hjp hj')
 obtain ⟨h0,o,ho,h1⟩:=zkI hq
 have hol:ops.toList[j]?=some o:=by
   rw [List.getElem?_take,if_pos hjp] at ho
   exact ho
 have hoa:ops[j]?=some o:=by simpa using hol
 have hql:listed.getD q.1 false=true∧q.1<ops.size:=by
   rcases h1 with h1 | ⟨e,he,hb,h1⟩
   · rw [Nat.zero_add] at h1
     rw [h1]
     exact ⟨hj',(Array.getElem?_eq_some_iff.1 hoa).1⟩
   have:=hcl.down j o hoa hj' e (by simpa using he) hb
   rw [h1] at this
   refine ⟨this,?_⟩
   rcases Nat.lt_or_ge q.1 listed.size with h' | h'
   · rw [hcl.size] at h';exact h'
   simp [Array.getElem?_eq_none h'] at this
 have hqy:q.1≠y:=fun e=>by
   rw [e] at hql
   have h1:=hql.1
   simp [hylt] at h1 hun
   rw [h1] at hun;cases hun
 refine ⟨?_,hTo q.1 hqy⟩
 have hoq:ops.toList[q.1]?=some ops[q.1]:=by simp [hql.2]
 cases hdq:ops[q.1].dst with
 | none=>
   -- no slot: ziW is 0 only where there is none
   exfalso
   have hqp:q.1<p:=by
     rcases h1 with h1 | ⟨e,he,hb,h1⟩
     · omega
     rcases Nat.lt_or_ge q.1 p with h' | h'
     · exact h'
     exfalso
     have h2:=(hc q.1).1 (List.mem_append_right _ (List.mem_cons_of_mem _ (List.mem_append_right _ (zeq.2 ⟨h',hql.2⟩))))
     have h3:q.1<listed.size:=by rw [hcl.size];exact hql.2
     have h4:=hql.1
     simp [h3] at h4 h2;rw [h4] at h2;cases h2
   have:=p5 ops[q.1] (List.mem_of_getElem? (l:=ops.toList.take p) (i:=q.1) (by rw [List.getElem?_take,if_pos hqp];exact hoq))
   rw [hdq] at this;cases this
 | some d=>
   have hdd:q.2=d:=by
     rw [h0];unfold ziW
     rw [zcy,Array.getElem?_eq_getElem hql.2]
     simp only [Option.bind_some,hdq]
   rw [hdd]
   have hne:d≠dy:=fun e=>hqy (zmU hdn hoq hoyl hdq (e▸hdy))
   exact zbN _ _ hne
theorem zmV {P:Program} {ext:Xt} {K:Env→World→Prop} (hp:zjA ops m p=true)
   (st:∀ i u u' T T' w1 w2,Ext w0 w1→Ext w1 w2→(∀ q∈zlP (zf1 ops.toList 0 (ops.toList.take p)) i,u' q.2=u q.2∧T' q.1=T q.1)→Q i u T w1→Q i u' T' w2)
   (hs:zfg P ext ops.toList m s0 w0 Q 0 (ops.toList.take p))
   (hf:∀ (u:Env) (T:Nat→Nat×Nat) (w1:World),Ext w0 w1→zbf (List.range p) w0.heap.size w1.heap.size T→zhS Q u T w1 0 p→zf0 P ext ops.toList 0 K ((List.range ops.toList.length).drop p) (mix m s0 u) w1) :
   ∀ (c:List Nat) (listed:Array Bool) (s:Env) (T:Nat→Nat×Nat) (w:World),PInv ops p m Q s0 w0 c listed s T w→(∀ i∈c,∃ o,ops[i]?=some o∧zdj o=true) →
     zf0 P ext ops.toList 0 K (c++(List.range ops.size).drop p) s w:=by
 have hp':=hp
 simp only [zjA,Bool.and_eq_true,List.all_eq_true] at hp'
 obtain ⟨⟨⟨⟨⟨⟨p1,p2⟩,p3⟩,p4⟩,p5⟩,p6⟩,p7⟩:=hp'
 have hpn:p≤ops.size:=Nat.le_of_ble_eq_true p1
 intro c
 induction c with
 | nil=>
   intro listed s T w h _
   have hall:∀ j,j<p→listed.getD j false=true:=fun j hj=>by
     have h2:¬listed.getD j true=false:=fun e=>by
       have:=(h.mem j).2 e
       rw [List.nil_append] at this
       have:=(zeq.1 this).1
       omega
     have h3:j<listed.size:=by rw [h.closed.size];omega
     simp [h3] at h2 ⊢
     exact h2
   have hv:=hf s T w h.ext ⟨fun i hi=>h.t1 i (List.mem_range.1 hi) (hall i (List.mem_range.1 hi)),fun i hi j hj hij=>h.t2 i j (List.mem_range.1 hi) (List.mem_range.1 hj) (hall i (List.mem_range.1 hi)) (hall j (List.mem_range.1 hj)) hij⟩
     (zhV fun i hi=>by rw [Nat.zero_add];exact h.q i hi (hall i hi))
   rw [zfi h.env,show ops.toList.length=ops.size by simp] at hv
   exact hv
 | cons y c2 ih=>
   intro listed s T w h hpu
   obtain ⟨⟨oy,hoy,hdeps⟩,_⟩:=h.top
   obtain ⟨o',ho',hpy⟩:=hpu y (by simp)
   have:o'=oy:=by rw [hoy] at ho';cases ho';rfl
   subst this
   have hyp:=h.lt y (by simp)
   have hoyl:ops.toList[y]?=some o':=by simpa using hoy
   have hin:(ops.toList.take p)[y]?=some o':=by rw [List.getElem?_take,if_pos hyp];exact hoyl
   obtain ⟨dy,hdy⟩:=Option.isSome_iff_exists.1 (p5 o' (List.mem_of_getElem? hin))
   have hgy:o'.guard=none:=by
     have:=p3 o' (List.mem_of_getElem? hoyl)
     simpa using this
   have hun:listed.getD y true=false:=(h.mem y).1 (by simp)
   have hstep:=h.ready hs hp hyp hoy hdeps hdy
   obtain ⟨v,hv,hxx,hQy⟩:=(zf4 (zeX hpy)).1 hstep
   rw [List.cons_append]
   unfold zf0
   rw [zcD (o:=o') (by rw [zcy];exact hoy)]
   refine ⟨true,by unfold gOk;rw [hgy],?_⟩
   simp only [if_true]
   unfold opF
   have hm0:zbi 0 y=false:=by rw [zd3];simp
   rw [hm0]
   refine (zf4 (zeX hpy)).2 ⟨v,hv,?_⟩
   have hput:put s o'.dst v=upd s dy v:=by rw [hdy];rfl
   rw [hput]
   exact ih _ _ _ _ (PInv.step (c1:=[]) h hp st hun hoy hdeps hdy hxx hQy) fun i hi=>hpu i (by simp [hi])
end
theorem zkJ {ops:Array Oper} {p:Nat} (p7:∀ k∈List.range ops.size,∀ i∈List.range k,ztH ops (zqr ops.toList) p i k=true) {c:List Nat} (hlt:∀ j∈c,j<p) (hso:c.Pairwise (· < ·)) (hall:∀ i∈c,∃ o,ops[i]?=some o∧zdj o=true) :
   zfx ops (zqr ops.toList) 0 (c++(List.range ops.size).drop p)=true:=by
 have hpw:(c++(List.range ops.size).drop p).Pairwise (· < ·):=by
   rw [List.pairwise_append]
   exact ⟨hso,List.Pairwise.sublist (List.drop_sublist _ _) List.pairwise_lt_range,fun i hi j hj=>by have:=hlt i hi;have:=(zeq.1 hj).1;omega⟩
 have hsz:∀ j∈c++(List.range ops.size).drop p,j<ops.size:=fun j hj=>by
   rcases List.mem_append.1 hj with h | h
   · obtain ⟨o,ho,_⟩:=hall j h;exact (Array.getElem?_eq_some_iff.1 ho).1
   exact (zeq.1 h).2
 have key:∀ i∈c++(List.range ops.size).drop p,∀ j∈c++(List.range ops.size).drop p,i<j→zoK ops (zqr ops.toList) 0 i j=true:=by
   intro i hi j hj hij
   have hA:=p7 j (List.mem_range.2 (hsz j hj)) i (List.mem_range.2 hij)
   have h0:zbi 0 i=false:=by rw [zd3];simp
   unfold ztH at hA
   unfold zoK
   rw [Bool.or_eq_true] at hA ⊢
   refine hA.imp id fun hA=>?_
   cases hoi:nth ops.toList i with
   | none=>simp [hoi] at hA
   | some oi=>
     cases hoj:nth ops.toList j with
     | none=>simp [hoi,hoj] at hA
     | some oj=>
       simp only [hoi,hoj] at hA ⊢
       cases hb:Nat.ble p j with
       | true=>
         simp only [hb,cond_true,Bool.and_eq_true] at hA
         simp [zeX hA.2.1,h0,hA.2.1,hA.2.2]
       | false=>
         have hjp:j<p:=by
           rcases Nat.lt_or_ge j p with h | h
           · exact h
           rw [Nat.ble_eq_true_of_le h] at hb;cases hb
         have mem:∀ q∈c++(List.range ops.size).drop p,q<p→q∈c:=fun q hq hqp=>by
           rcases List.mem_append.1 hq with h | h
           · exact h
           have:=(zeq.1 h).1;omega
         obtain ⟨o1,ho1,hp1⟩:=hall i (mem i hi (by omega))
         obtain ⟨o2,ho2,hp2⟩:=hall j (mem j hj hjp)
         rw [zcy,ho1] at hoi
         rw [zcy,ho2] at hoj
         cases hoi;cases hoj
         simp only [hb,cond_false,hp1,hp2,Bool.and_self,Bool.not_true,Bool.false_or] at hA
         simp [zeX hp1,zeX hp2,h0,hA]
 generalize c++(List.range ops.size).drop p=l at hpw key
 clear hsz
 induction l with
 | nil=>rfl
 | cons x r ih=>
   rw [List.pairwise_cons] at hpw
   simp only [zfx,Bool.and_eq_true,List.all_eq_true]
   exact ⟨fun j hj=>key x (by simp) j (by simp [hj]) (hpw.1 j hj),ih hpw.2 fun i hi j hj=>key i (by simp [hi]) j (by simp [hj])⟩
section
variable {P:Program} {ext:Xt} {N n:Nat} (hE:∀ f,f<N→ext.l.elem f=false→zeW P f=true)
include hE
theorem zoL {ops:Array Oper} {m p:Nat} {K:Env→World→Prop} {QQ:Exit→Act→World→Prop} (hok:zlT ext.l N n ops.toList=true) (hp:zjA ops m p=true)
   {a0:Act} {w0:World} {Q:ParQ} (st:∀ i u u' T T' w1 w2,Ext w0 w1→Ext w1 w2→(∀ q∈zlP (zf1 ops.toList 0 (ops.toList.take p)) i,u' q.2=u q.2∧T' q.1=T q.1)→Q i u T w1→Q i u' T' w2) (hs:zfg P ext ops.toList m (za3 a0) w0 Q 0 (ops.toList.take p))
   (hf:∀ (u:Env) (T:Nat→Nat×Nat) (w1:World),Ext w0 w1→zbf (List.range p) w0.heap.size w1.heap.size T→zhS Q u T w1 0 p→zf0 P ext ops.toList 0 K ((List.range ops.toList.length).drop p) (mix m (za3 a0) u) w1)
   (hq:∀ a' w',Kept n (zhT ops.toList) a0 a'→K (za3 a') w'→QQ .normal a' w') :
   ∀ (k:Nat) (c:List Nat) (listed:Array Bool) (a:Act) (w:World) (T:Nat→Nat×Nat),c.length=k→PInv ops p m Q (za3 a0) w0 c listed (za3 a) T w→a.tmps.size=n→Kept n (zhT ops.toList) a0 a →
     wpAny P .any ops QQ (k+((List.range ops.size).drop p).length) listed a w:=by
 have hp':=hp
 simp only [zjA,Bool.and_eq_true,List.all_eq_true] at hp'
 obtain ⟨⟨⟨⟨⟨⟨p1,p2⟩,p3⟩,p4⟩,p5⟩,p6⟩,p7⟩:=hp'
 have hpn:p≤ops.size:=Nat.le_of_ble_eq_true p1
 intro k
 induction k with
 | zero=>
   intro c listed a w T hl h hn hk
   have hnil:c=[]:=List.eq_nil_of_length_eq_zero hl
   subst hnil
   have hv:=zmV (P:=P) (ext:=ext) hp st hs hf [] listed (za3 a) T w h (by simp)
   refine zgJ hE hok _ _ listed a w (by simp) h.nodup h.mem h.closed h.top ?_ hn hv fun a' w' hk' hh=>hq a' w' (hk.trans hk' (fun _ h=>h) (fun _ h=>h)) hh
   exact zkJ p7 (c:=[]) (by simp) (by simp) (by simp)
 | succ k ih=>
   intro c listed a w T hl h hn hk
   by_cases hall:∀ i∈c,∃ o,ops[i]?=some o∧zdj o=true
   · have hv:=zmV (P:=P) (ext:=ext) hp st hs hf c listed (za3 a) T w h hall
     refine zgJ hE hok _ _ listed a w (by simp [hl]) h.nodup h.mem h.closed h.top ?_ hn hv fun a' w' hk' hh=>hq a' w' (hk.trans hk' (fun _ h=>h) (fun _ h=>h)) hh
     exact zkJ p7 h.lt h.sorted hall
   rw [show k+1+((List.range ops.size).drop p).length=(k+((List.range ops.size).drop p).length)+1 by omega]
   refine ⟨fun hnone=>?_,fun y hy=>?_⟩
   · cases c with
     | nil=>simp at hl
     | cons i r=>
       obtain ⟨⟨o,ho,hd⟩,_⟩:=h.top
       have:i∈Region.ready .any ops listed:=mem_ready.2 ⟨(h.mem i).1 (by simp),o,ho,hd⟩
       rw [hnone] at this;cases this
   obtain ⟨hun,oy,hoy,hdeps⟩:=mem_ready.1 hy
   have hym:y∈c++(List.range ops.size).drop p:=(h.mem y).2 hun
   have hoyl:ops.toList[y]?=some oy:=by simpa using hoy
   have hys:y<ops.size:=(Array.getElem?_eq_some_iff.1 hoy).1
   have hyc:y∈c:=by
     rcases List.mem_append.1 hym with h1 | h1
     · exact h1
     exfalso
     refine hall fun i hi=>?_
     have hip:=h.lt i hi
     have hyp:=(zeq.1 h1).1
     have hA:=p7 y (List.mem_range.2 hys) i (List.mem_range.2 (by omega))
     unfold ztH at hA
     rw [Bool.or_eq_true] at hA
     rcases hA with hA | hA
     · exfalso
       rw [zd3] at hA
       have h1:=zi3 h.closed y oy hoy hdeps i hA
       have h2:=(h.mem i).1 (List.mem_append_left _ hi)
       rcases Nat.lt_or_ge i listed.size with h' | h'
       · simp [h'] at h1 h2;rw [h1] at h2;cases h2
       simp [Array.getElem?_eq_none h'] at h1
     have hb:Nat.ble p y=true:=Nat.ble_eq_true_of_le hyp
     cases hoi:nth ops.toList i with
     | none=>simp [hoi] at hA
     | some oi=>
       rw [hoi,zcy,hoy] at hA
       simp only [hb,cond_true,Bool.and_eq_true] at hA
       have hoi':=hoi
       rw [zcy] at hoi'
       exact ⟨oi,hoi',hA.2.1⟩
   have hyp:=h.lt y hyc
   obtain ⟨c1,c2,rfl⟩:=List.append_of_mem hyc
   have hoy':nth ops.toList y=some oy:=by rw [zcy];exact hoy
   have hgy:oy.guard=none:=by
     have:=p3 oy (List.mem_of_getElem? hoyl)
     simpa using this
   have hin:(ops.toList.take p)[y]?=some oy:=by rw [List.getElem?_take,if_pos hyp];exact hoyl
   obtain ⟨dy,hdy⟩:=Option.isSome_iff_exists.1 (p5 oy (List.mem_of_getElem? hin))
   have hstep:=h.ready hs hp hyp hoy hdeps hdy
   have h':zeU P ext ops.toList 0 y (za3 a) w (fun s' w'=>∃ v,s'=put (za3 a) oy.dst v∧Ext w w'∧Q y (upd (za3 a) dy v) (zcx T y (w.heap.size,w'.heap.size)) w'):=by
     rw [zcD hoy']
     refine ⟨true,by unfold gOk;rw [hgy],?_⟩
     simp only [if_true]
     unfold opF
     have:zbi 0 y=false:=by rw [zd3];simp
     rw [this]
     exact zf3 (fun v w' hh=>⟨v,rfl,hh.1,hh.2⟩) hstep
   refine zeo hE hok hn h' fun a' w' hk' ⟨v,hv,hxx,hQy⟩=>?_
   refine ih (c1++c2) (listed.setIfInBounds y true) a' w' (zcx T y (w.heap.size,w'.heap.size)) (by simp at hl ⊢;omega) ?_ hk'.size (hk.trans hk' (fun _ h=>h) (fun _ h=>h))
   have hput:za3 a'=upd (za3 a) dy v:=by rw [hv,hdy];rfl
   rw [hput]
   exact h.step hp st hun hoy hdeps hdy hxx hQy
end
def zi4 (ops:Array Oper) (m:Nat):Bool:=
 zi2 (zhT ops.toList)&&(ops.toList.all fun o=>o.guard.isNone)&&((zhT ops.toList).all fun t=>zbi m t)&&zsW ops.toList [] (List.range ops.size)
theorem zho {P:Program} {ext:Xt} {m:Nat} {s:Env} {w:World} {B:World→Prop} {R:Nat→World→World→Prop} {Q:ParQ}:∀ {l:List Oper} {k:Nat},zeV P ext m s w B R Q k l →
   ∀ i o,l[i]?=some o→∀ (u:Env) (T:Nat→Nat×Nat) (w1:World),B w1→w.heap.size≤w1.heap.size→zbf (onL o.after.toList) w.heap.size w1.heap.size T→zhm Q u T w1 o.after.toList →
     opK P ext o (ev (mix m s u)) w1 (fun v w2=>R (k+i) w1 w2∧Q (k+i) (put u o.dst v) (zcx T (k+i) (w1.heap.size,w2.heap.size)) w2)
 | [],_,_,i,o,ho=>by simp at ho
 | x :: l,k,h,0,o,ho=>by
   simp only [List.getElem?_cons_zero,Option.some.injEq] at ho
   subst ho
   exact h.1
 | x :: l,k,h,i+1,o,ho=>by
   have:=zho h.2 i o (by simpa using ho)
   rwa [show k+(i+1)=k+1+i by omega]
theorem zi5 {ol:List Oper} {j:Nat} {p:Nat×Nat} (h:p∈zmR ol j):p.1=j∧∃ o,ol[j]?=some o∧o.dst=some p.2:=by
 unfold zmR at h
 rw [zfw] at h
 cases ho:ol[j]? with
 | none=>simp [ho] at h
 | some o=>
   cases hd:o.dst with
   | none=>simp [ho,hd] at h
   | some d=>
     simp [ho,hd] at h
     subst h
     exact ⟨rfl,o,rfl,hd⟩
theorem zjC {ol:List Oper}:∀ {l:List Edge} {p:Nat×Nat},p∈zsU ol l→(∃ o,ol[p.1]?=some o∧o.dst=some p.2)∧∃ e∈l,Region.binds .any e=true∧e.on=p.1
 | [],_,h=>by simp [zsU] at h
 | e :: l,p,h=>by
   simp only [zsU] at h
   cases hb:Region.binds .any e
   · rw [hb] at h
     obtain ⟨h0,x,hx,h2⟩:=zjC (l:=l) h
     exact ⟨h0,x,by simp [hx],h2⟩
   rw [hb] at h
   simp only [cond_true,List.mem_append] at h
   rcases h with h | h
   · obtain ⟨h1,h2⟩:=zi5 h
     exact ⟨by rw [h1];exact h2,e,by simp,hb,h1.symm⟩
   obtain ⟨h0,x,hx,h2⟩:=zjC (l:=l) h
   exact ⟨h0,x,by simp [hx],h2⟩
theorem zmW {ol:List Oper}:∀ {l:List Oper} {k i:Nat} {p:Nat×Nat},p∈zlP (zkF ol k l) i→(∃ o,ol[p.1]?=some o∧o.dst=some p.2)∧∃ o,l[i]?=some o∧(p.1=k+i∨∃ e∈o.after.toList,Region.binds .any e=true∧e.on=p.1)
 | [],_,_,_,h=>by simp [zkF,zlP,nth] at h
 | o :: l,k,0,p,h=>by
   simp only [zkF,zlP,nth,List.mem_append] at h
   rcases h with h | h
   · obtain ⟨h1,h2⟩:=zi5 h
     exact ⟨by rw [h1];exact h2,o,rfl,.inl h1⟩
   obtain ⟨h0,h1⟩:=zjC h
   exact ⟨h0,o,rfl,.inr h1⟩
 | o :: l,k,i+1,p,h=>by
   have h':p∈zlP (zkF ol (k+1) l) i:=h
   obtain ⟨h0,o',ho,h1⟩:=zmW h'
   exact ⟨h0,o',by simpa using ho,h1.imp (fun e=>by omega) id⟩
structure GInv (ops:Array Oper) (m:Nat) (B:World→Prop) (Q:ParQ) (s0:Env) (w0:World) (c:List Nat) (listed:Array Bool) (s:Env) (T:Nat→Nat×Nat) (w:World):Prop where
 nodup:c.Nodup
 mem:∀ j,j∈c↔listed.getD j true=false
 closed:Closed ops listed
 top:Top ops listed c
 base:B w
 sz:w0.heap.size≤w.heap.size
 env:∀ t,zbi m t=false→s t=s0 t
 t1:∀ j,listed.getD j false=true→w0.heap.size≤(T j).1∧(T j).1≤(T j).2∧(T j).2≤w.heap.size
 t2:∀ i j,listed.getD i false=true→listed.getD j false=true→i≠j→(T i).2≤(T j).1∨(T j).2≤(T i).1
 q:∀ j,listed.getD j false=true→Q j s T w
section
variable {ops:Array Oper} {m:Nat} {B:World→Prop} {R:Nat→World→World→Prop} {Q:ParQ} {s0 s:Env} {w0 w w':World} {c c1 c2:List Nat} {listed:Array Bool} {T:Nat→Nat×Nat} {y:Nat} {oy:Oper} {v:Value}
theorem GInv.ready (h:GInv ops m B Q s0 w0 c listed s T w) {P:Program} {ext:Xt} (hs:zeV P ext m s0 w0 B R Q 0 ops.toList)
   (hoy:ops[y]?=some oy) (hdeps:∀ e∈oy.after,Region.binds .any e=true→listed.getD e.on false=true) :
   opK P ext oy (ev s) w (fun v w2=>R y w w2∧Q y (put s oy.dst v) (zcx T y (w.heap.size,w2.heap.size)) w2):=by
 have hon:∀ i∈onL oy.after.toList,listed.getD i false=true:=fun i hi=>by
   obtain ⟨e,he,hb,rfl⟩:=zjB hi
   exact hdeps e (by simpa using he) hb
 have hstep:=zho hs y oy (by simpa using hoy) s T w h.base h.sz ⟨fun i hi=>h.t1 i (hon i hi),fun i hi j hj hij=>h.t2 i j (hon i hi) (hon j hj) hij⟩
   (zf7 fun e he hb=>h.q e.on (hdeps e (by simpa using he) hb))
 rw [zfi h.env] at hstep
 simp only [Nat.zero_add] at hstep
 exact hstep
theorem GInv.step (h:GInv ops m B Q s0 w0 (c1++y :: c2) listed s T w) (hp:zi4 ops m=true)
   (bs:∀ j w1 w2,B w1→R j w1 w2→B w2) (sz:∀ j w1 w2,R j w1 w2→w1.heap.size≤w2.heap.size)
   (st:∀ i j u u' T T' w1 w2,i≠j→B w1→R j w1 w2→(∀ q∈zlP (zkF ops.toList 0 ops.toList) i,u' q.2=u q.2∧T' q.1=T q.1)→Q i u T w1→Q i u' T' w2)
   (hun:listed.getD y true=false) (hoy:ops[y]?=some oy) (hdeps:∀ e∈oy.after,Region.binds .any e=true→listed.getD e.on false=true)
   (hR:R y w w') (hQy:Q y (put s oy.dst v) (zcx T y (w.heap.size,w'.heap.size)) w') :
   GInv ops m B Q s0 w0 (c1++c2) (listed.setIfInBounds y true) (put s oy.dst v) (zcx T y (w.heap.size,w'.heap.size)) w':=by
 simp only [zi4,Bool.and_eq_true,List.all_eq_true] at hp
 obtain ⟨⟨⟨p2,p3⟩,p4⟩,p6⟩:=hp
 have hdn:=zep p2
 obtain ⟨hnd,hc,hcl,ht,hB,hsz,henv,hT1,hT2,hQ⟩:=h
 have hys:y<ops.size:=(Array.getElem?_eq_some_iff.1 hoy).1
 have hylt:y<listed.size:=by rw [hcl.size];exact hys
 have hoyl:ops.toList[y]?=some oy:=by simpa using hoy
 have hnd2:=hnd
 rw [List.nodup_append] at hnd2
 have hold:∀ j,y≠j→(listed.setIfInBounds y true).getD j false=true→listed.getD j false=true:=fun j hjy hj=>by rwa [getD_set_ne false hjy] at hj
 have hTy:zcx T y (w.heap.size,w'.heap.size) y=(w.heap.size,w'.heap.size):=by simp [zcx]
 have hTo:∀ j,j≠y→zcx T y (w.heap.size,w'.heap.size) j=T j:=fun j hj=>by
   have:Nat.beq j y=false:=by rw [←Bool.not_eq_true,Nat.beq_eq];exact hj
   simp [zcx,this]
 have hszy:=sz y w w' hR
 refine ⟨?_,?_,⟨by simp [hcl.size],?_⟩,zjz ht,bs y w w' hB hR,Nat.le_trans hsz hszy,fun t hm=>?_,?_,?_,?_⟩
 · exact hnd.sublist (List.Sublist.append_left (List.sublist_cons_self y _) c1)
 · intro j
   by_cases hjy:y=j
   · subst hjy
     have hnot:y∉c1++c2:=by
       intro hm
       rcases List.mem_append.1 hm with hm | hm
       · exact hnd2.2.2 y hm y (by simp) rfl
       exact (List.nodup_cons.1 hnd2.2.1).1 hm
     simp only [hnot,false_iff]
     simp [hylt]
   rw [getD_set_ne true hjy,←hc j]
   simp only [List.mem_append,List.mem_cons]
   constructor
   · rintro (h | h)
     · exact .inl h
     exact .inr (.inr h)
   rintro (h | h | h)
   · exact .inl h
   · exact absurd h.symm hjy
   exact .inr h
 · intro j o ho hj e he hb
   by_cases hjy:y=j
   · subst hjy
     rw [hoy] at ho;cases ho
     exact getD_set_true (hdeps e he hb)
   rw [getD_set_ne false hjy] at hj
   exact getD_set_true (hcl.down j o ho hj e he hb)
 · cases hdy:oy.dst with
   | none=>exact henv t hm
   | some dy=>
     show upd s dy v t=s0 t
     rw [zbN _ _ (fun e=>?_)]
     · exact henv t hm
     subst e
     have:=p4 _ (List.mem_filterMap.2 ⟨oy,List.mem_of_getElem? hoyl,hdy⟩)
     rw [this] at hm;cases hm
 · intro j hj
   by_cases hjy:j=y
   · rw [hjy,hTy];exact ⟨hsz,hszy,Nat.le_refl _⟩
   rw [hTo j hjy]
   obtain ⟨h1,h2,h3⟩:=hT1 j (hold j (fun e=>hjy e.symm) hj)
   exact ⟨h1,h2,Nat.le_trans h3 hszy⟩
 · intro i j hi hj hij
   by_cases hiy:i=y
   · have hjy:¬j=y:=fun e=>hij (hiy.trans e.symm)
     rw [hiy,hTy,hTo j hjy]
     exact .inr (hT1 j (hold j (fun e=>hjy e.symm) hj)).2.2
   by_cases hjy:j=y
   · rw [hjy,hTy,hTo i hiy]
     exact .inl (hT1 i (hold i (fun e=>hiy e.symm) hi)).2.2
   rw [hTo i hiy,hTo j hjy]
   exact hT2 i j (hold i (fun e=>hiy e.symm) hi) (hold j (fun e=>hjy e.symm) hj) hij
 intro j hj
 by_cases hjy:j=y
 · rw [hjy];exact hQy
 have hj':=hold j (fun e=>hjy e.symm) hj
 refine st j y s _ T _ w w' hjy hB hR (fun q hq=>?_) (hQ j hj')
 obtain ⟨⟨oq,hoq,hdq⟩,o,ho,h1⟩:=zmW hq
 have hoa:ops[j]?=some o:=by simpa using ho
 have hql:listed.getD q.1 false=true:=by
   rcases h1 with h1 | ⟨e,he,hb,h1⟩
   · rw [Nat.zero_add] at h1
     rw [h1];exact hj'
   have:=hcl.down j o hoa hj' e (by simpa using he) hb
   rw [h1] at this
   exact this
 have hqy:q.1≠y:=fun e=>by
   rw [e] at hql
   simp [hylt] at hql hun
   rw [hql] at hun;cases hun
 refine ⟨?_,hTo q.1 hqy⟩
 cases hdy:oy.dst with
 | none=>rfl
 | some dy=>
   show upd s dy v q.2=s q.2
   exact zbN _ _ fun e=>hqy (zmU hdn hoq hoyl hdq (e▸hdy))
end
section
variable {P:Program} {ext:Xt} {N n:Nat} (hE:∀ f,f<N→ext.l.elem f=false→zeW P f=true)
include hE
theorem znS {ops:Array Oper} {m:Nat} {K:Env→World→Prop} {QQ:Exit→Act→World→Prop} (hok:zlT ext.l N n ops.toList=true) (hp:zi4 ops m=true)
   {a0:Act} {w0:World} {B:World→Prop} {R:Nat→World→World→Prop} {Q:ParQ} (bs:∀ j w1 w2,B w1→R j w1 w2→B w2) (sz:∀ j w1 w2,R j w1 w2→w1.heap.size≤w2.heap.size)
   (st:∀ i j u u' T T' w1 w2,i≠j→B w1→R j w1 w2→(∀ q∈zlP (zkF ops.toList 0 ops.toList) i,u' q.2=u q.2∧T' q.1=T q.1)→Q i u T w1→Q i u' T' w2) (hs:zeV P ext m (za3 a0) w0 B R Q 0 ops.toList)
   (hf:∀ (u:Env) (T:Nat→Nat×Nat) (w1:World),B w1→w0.heap.size≤w1.heap.size→zbf (List.range ops.toList.length) w0.heap.size w1.heap.size T→zhS Q u T w1 0 ops.toList.length→K (mix m (za3 a0) u) w1)
   (hq:∀ a' w',Kept n (zhT ops.toList) a0 a'→K (za3 a') w'→QQ .normal a' w') :
   ∀ (k:Nat) (c:List Nat) (listed:Array Bool) (a:Act) (w:World) (T:Nat→Nat×Nat),c.length=k→GInv ops m B Q (za3 a0) w0 c listed (za3 a) T w→a.tmps.size=n→Kept n (zhT ops.toList) a0 a →
     wpAny P .any ops QQ k listed a w:=by
 have hp':=hp
 simp only [zi4,Bool.and_eq_true,List.all_eq_true] at hp'
 obtain ⟨⟨⟨p2,p3⟩,p4⟩,p6⟩:=hp'
 intro k
 induction k with
 | zero=>
   intro c listed a w T hl h hn hk
   have hnil:c=[]:=List.eq_nil_of_length_eq_zero hl
   subst hnil
   have hall:∀ j,j<ops.size→listed.getD j false=true:=fun j hj=>by
     have h2:¬listed.getD j true=false:=fun e=>by simpa using (h.mem j).2 e
     have h3:j<listed.size:=by rw [h.closed.size];omega
     simp [h3] at h2 ⊢
     exact h2
   have hv:=hf (za3 a) T w h.base h.sz ⟨fun i hi=>h.t1 i (hall i (by simpa using hi)),fun i hi j hj hij=>h.t2 i j (hall i (by simpa using hi)) (hall j (by simpa using hj)) hij⟩
     (zhV fun i hi=>by rw [Nat.zero_add];exact h.q i (hall i (by simpa using hi)))
   rw [zfi h.env] at hv
   refine ⟨?_,hq a w hk hv⟩
   rw [List.eq_nil_iff_forall_not_mem]
   intro j hj
   exact absurd ((h.mem j).2 (mem_ready.1 hj).1) (by simp)
 | succ k ih=>
   intro c listed a w T hl h hn hk
   refine ⟨fun hnone=>?_,fun y hy=>?_⟩
   · cases c with
     | nil=>simp at hl
     | cons i r=>
       obtain ⟨⟨o,ho,hd⟩,_⟩:=h.top
       have:i∈Region.ready .any ops listed:=mem_ready.2 ⟨(h.mem i).1 (by simp),o,ho,hd⟩
       rw [hnone] at this;cases this
   obtain ⟨hun,oy,hoy,hdeps⟩:=mem_ready.1 hy
   have hyc:y∈c:=(h.mem y).2 hun
   have hoyl:ops.toList[y]?=some oy:=by simpa using hoy
   obtain ⟨c1,c2,rfl⟩:=List.append_of_mem hyc
   have hoy':nth ops.toList y=some oy:=by rw [zcy];exact hoy
   have hgy:oy.guard=none:=by
     have:=p3 oy (List.mem_of_getElem? hoyl)
     simpa using this
   have hstep:=h.ready hs hoy hdeps
   have h':zeU P ext ops.toList 0 y (za3 a) w (fun s' w'=>∃ v,s'=put (za3 a) oy.dst v∧R y w w'∧Q y (put (za3 a) oy.dst v) (zcx T y (w.heap.size,w'.heap.size)) w'):=by
     rw [zcD hoy']
     refine ⟨true,by unfold gOk;rw [hgy],?_⟩
     simp only [if_true]
     unfold opF
     have:zbi 0 y=false:=by rw [zd3];simp
     rw [this]
     exact zf3 (fun v w' hh=>⟨v,rfl,hh.1,hh.2⟩) hstep
   refine zeo hE hok hn h' fun a' w' hk' ⟨v,hv,hR,hQy⟩=>?_
   refine ih (c1++c2) (listed.setIfInBounds y true) a' w' (zcx T y (w.heap.size,w'.heap.size)) (by simp at hl ⊢;omega) ?_ hk'.size (hk.trans hk' (fun _ h=>h) (fun _ h=>h))
   rw [hv]
   exact h.step hp bs sz st hun hoy hdeps hR hQy
end
def wrs:Code→List Nat
 | .region _ ops _=>zhT ops.toList
 | .seq a b=>wrs a++wrs b
 | .cond _ a b=>wrs a++wrs b
 | .block _ c=>wrs c
 | .loop c=>wrs c
 | _=>[]
def okC (g:Cfg) (N n:Nat):Code→Bool
 | .skip=>true
 | .region id ops d=>zlT g.ext N n ops.toList&&(bif d then (match find g.gpars id with | some m=>zi4 ops m | none=>match find g.pars id with | some (m,p)=>zjA ops m p | none=>match find g.draws id with | some (l,fl)=>zrn ops l fl | none=>true) else true)
 | .seq a b=>okC g N n a&&okC g N n b&&(match (zbI b).bind (find g.joins) with | some (m,_)=>(wrs a).all fun t=>zbi m t | none=>true)
 | .cond _ a b=>okC g N n a&&okC g N n b
 | .block _ c=>okC g N n c
 | .loop c=>okC g N n c&&(match (zbI c).bind (find g.loops) with | some (m,_)=>(wrs c).all fun t=>zbi m t | none=>true)
 | .exit _=>true
 | .ret=>true
 | _=>true
theorem zmX {s:Env} {c:Operand} {b:Bool} (h:ev s c=.bool b):lit s c b=s:=by
 cases c with
 | tmp t=>exact zen h
 | _=>rfl
theorem zjD {P:Program} {Q:Exit→Act→World→Prop} {c:Code} (I:Nat→Act→World→Prop) (m:Nat) {a:Act} {w:World} (h₀:I m a w)
   (round:∀ m a w,I m a w→c.wp P (Exit.then (fun a' w'=>∃ m',m'<m∧I m' a' w') Q) a w):(Code.loop c).wp P Q a w:=by
 intro b k cs
 have key:∀ n a w,I n a w→∃ e a' w',Q e a' w'∧Arrives P (lone (b.at a (.code c :: .inLoop c :: k)) cs w) b k cs e a' w':=by
   intro n
   induction n using Nat.strongRecOn with
   | _ n ih=>
     intro a w hI
     obtain ⟨e,a₁,w₁,hq,harr⟩:=round n a w hI b (.inLoop c :: k) cs
     cases e with
     | normal=>
       obtain ⟨m',hlt,hI₁⟩:=hq
       obtain ⟨e₂,a₂,w₂,hq₂,harr₂⟩:=ih m' hlt a₁ w₁ hI₁
       exact ⟨e₂,a₂,w₂,hq₂,.of_steps (Steps.trans harr (.one step_inLoop)) harr₂⟩
     | exit id=>exact ⟨_,a₁,w₁,hq,.pass (x:=.inLoop c) rfl (fun _ _=>.inl (by simp)) harr⟩
     | goto l=>exact ⟨_,a₁,w₁,hq,.pass (x:=.inLoop c) rfl (fun _ _=>.inl (by simp)) harr⟩
     | ret=>exact ⟨_,a₁,w₁,hq,.pass (x:=.inLoop c) rfl (fun _ _=>.inl (by simp)) harr⟩
     | panic ch=>exact ⟨_,a₁,w₁,hq,.pass (x:=.inLoop c) rfl (fun _ _=>.inl (by simp)) harr⟩
     | outgrown=>exact ⟨_,a₁,w₁,hq,.pass (x:=.inLoop c) rfl (fun _ _=>.inl (by simp)) harr⟩
 obtain ⟨e,a',w',hq,harr⟩:=key m a w h₀
 exact ⟨e,a',w',hq,.of_steps (.one step_loop) harr⟩
section
variable {P:Program} {g:Cfg} {N n:Nat} (hE:∀ f,f<N→g.ext.elem f=false→zeW P f=true) (hm:P.follows .mixedOrders=true)
include hE hm
theorem zqs:∀ (c:Code),okC g N n c=true→∀ (a:Act) (w:World) (K:Exit→Env→World→Prop),a.tmps.size=n→vc P g c (za3 a) w K →
   c.wp P (fun e a' w'=>K e (za3 a') w'∧Kept n (wrs c) a a') a w:=by
 intro c
 induction c with
 | skip=>intro _ a w K hn h;exact wp_skip ⟨h,.refl _ hn⟩
 | ret=>intro _ a w K hn h;exact wp_ret ⟨h,.refl _ hn⟩
 | exit id=>intro _ a w K hn h;exact wp_exit ⟨h,.refl _ hn⟩
 | region id ops d=>
   intro hok a w K hn h
   simp only [okC,Bool.and_eq_true] at hok
   cases d with
   | false=>exact wp_region (zlU hE hok.1 _ a w hn h fun a' w' hk hh=>⟨hh,hk⟩)
   | true=>
     simp only [vc] at h
     cases hgd:find g.gpars id with
     | some mm=>
      simp only [hgd] at h
      have ho:=hok.2
      simp only [hgd,cond_true] at ho
      obtain ⟨B,R,Q,hb,bs,sz,st,h1,h2⟩:=h
      have ho':=ho
      simp only [zi4,Bool.and_eq_true,List.all_eq_true] at ho'
      have htop:=ho'.2
      have key:=znS (Q:=Q) (QQ:=fun e a' w'=>K e (za3 a') w'∧Kept n (zhT ops.toList) a a') hE hok.1 ho bs sz st h1 h2 (fun a' w' hk hh=>⟨hh,hk⟩) ops.size (List.range ops.size) (Array.replicate ops.size false) a _ (fun _=>(0,0)) (by simp) ⟨?_,?_,⟨by simp,?_⟩,?_,hb,Nat.le_refl _,fun _ _=>rfl,?_,?_,?_⟩ hn (.refl _ hn)
      · exact wp_region_any hm key
      · exact List.nodup_range
      · intro j
        rw [List.mem_range]
        by_cases hj:j<ops.size<;>simp [hj]
      · intro j o _ hj
        by_cases hj':j<ops.size<;>simp [hj'] at hj
      · exact zf6 (seen:=[]) (by simp) (fun i hi=>by simp at hi ⊢;omega) htop
      · intro j hj
        by_cases hj':j<ops.size<;>simp [hj'] at hj
      · intro i _ hj _ _
        by_cases hj':i<ops.size<;>simp [hj'] at hj
      intro j hj
      by_cases hj':j<ops.size<;>simp [hj'] at hj
     | none=>
     simp only [hgd] at h
     cases hpd:find g.pars id with
     | some x=>
      obtain ⟨mm,p⟩:=x
      simp only [hpd] at h
      have ho:=hok.2
      simp only [hgd,hpd,cond_true] at ho
      obtain ⟨Q,st,h1,h2⟩:=h
      have ho':=ho
      simp only [zjA,Bool.and_eq_true,List.all_eq_true] at ho'
      have hpn:p≤ops.size:=Nat.le_of_ble_eq_true ho'.1.1.1.1.1.1
      have htop:=ho'.1.2
      have hsplit:(List.range ops.size).take p++(List.range ops.size).drop p=List.range ops.size:=List.take_append_drop _ _
      have hlen:p+((List.range ops.size).drop p).length=ops.size:=by simp;omega
      have key:=zoL (Q:=Q) (QQ:=fun e a' w'=>K e (za3 a') w'∧Kept n (zhT ops.toList) a a') hE hok.1 ho st h1 h2 (fun a' w' hk hh=>⟨hh,hk⟩) p ((List.range ops.size).take p) (Array.replicate ops.size false) a _ (fun _=>(0,0)) (by simp;omega) ⟨?_,?_,?_,?_,⟨by simp,?_⟩,?_,Ext.refl _,fun _ _=>rfl,?_,?_,?_⟩ hn (.refl _ hn)
      · rw [hlen] at key
        exact wp_region_any hm key
      · rw [hsplit];exact List.nodup_range
      · intro j
        rw [hsplit,List.mem_range]
        by_cases hj:j<ops.size<;>simp [hj]
      · intro j hj
        rw [List.mem_take_iff_getElem] at hj
        obtain ⟨i,hi,he⟩:=hj
        simp at he;omega
      · exact List.Pairwise.sublist (List.take_sublist _ _) List.pairwise_lt_range
      · intro j o _ hj
        by_cases hj':j<ops.size<;>simp [hj'] at hj
      · rw [hsplit]
        exact zf6 (seen:=[]) (by simp) (fun i hi=>by simp at hi ⊢;omega) htop
      · intro j _ hj
        by_cases hj':j<ops.size<;>simp [hj'] at hj
      · intro i _ _ _ hj _ _
        by_cases hj':i<ops.size<;>simp [hj'] at hj
      intro j _ hj
      by_cases hj':j<ops.size<;>simp [hj'] at hj
     | none=>
     simp only [hpd] at h
     cases hd:find g.draws id with
     | none=>simp [hd] at h
     | some x=>
       obtain ⟨l,fl⟩:=x
       simp only [hd] at h
       have ho:=hok.2
       simp only [hgd,hpd,hd,cond_true,zrn,Bool.and_eq_true,List.all_eq_true,List.mem_range] at ho
       obtain ⟨⟨⟨⟨o1,o2⟩,o3⟩,o4⟩,o5⟩:=ho
       have hnd:=zep o1
       have hmem:∀ j,j∈l↔j<ops.size:=fun j=>⟨fun hj=>Nat.le_of_ble_eq_true (o2 j hj),fun hj=>List.mem_of_elem_eq_true (o3 j hj)⟩
       have hlen:l.length=ops.size:=by
         have h1:l.Perm (List.range ops.size):=(List.perm_ext_iff_of_nodup hnd List.nodup_range).2 fun j=>by rw [hmem,List.mem_range]
         simpa using h1.length_eq
       obtain ⟨xt,hxl,h⟩:∃ xt:Xt,xt.l=g.ext∧zf0 P xt ops.toList fl (K .normal) l (za3 a) (World.drew1 w):=by
         cases hxs:g.xs.elem id
         · rw [hxs] at h;exact ⟨_,rfl,h⟩
         rw [hxs] at h
         obtain ⟨X,h⟩:=h
         exact ⟨_,rfl,h⟩
       refine wp_region_any hm (zgJ (ext:=xt) (by rw [hxl];exact hE) (by rw [hxl];exact hok.1) ops.size l _ a _ hlen hnd ?_ ⟨by simp,?_⟩ ?_ o5 hn h fun a' w' hk hh=>⟨hh,hk⟩)
       · intro j
         rw [hmem]
         by_cases hj:j<ops.size<;>simp [hj]
       · intro j o _ hj
         by_cases hj':j<ops.size<;>simp [hj'] at hj
       exact zf6 (seen:=[]) (by simp) (fun i hi=>by simpa using (hmem i).1 hi) o4
 | seq x y ihx ihy=>
   intro hok a w K hn h
   simp only [okC,Bool.and_eq_true] at hok
   obtain ⟨⟨hx,hy⟩,hj⟩:=hok
   refine wp_seq ?_
   have fin:∀ (e:Exit) (a1 a2:Act) (w2:World),Kept n (wrs x) a a1→K e (za3 a2) w2∧Kept n (wrs y) a1 a2→K e (za3 a2) w2∧Kept n (wrs (.seq x y)) a a2:=
     fun e a1 a2 w2 k1 ⟨h2,k2⟩=>⟨h2,k1.trans k2 (fun t ht=>List.mem_append_left _ ht) (fun t ht=>List.mem_append_right _ ht)⟩
   have out:∀ (e:Exit) (a1:Act) (w1:World),K e (za3 a1) w1→Kept n (wrs x) a a1→K e (za3 a1) w1∧Kept n (wrs (.seq x y)) a a1:=
     fun e a1 w1 h1 k1=>⟨h1,k1.trans (.refl [] k1.size) (fun t ht=>List.mem_append_left _ ht) (by simp)⟩
   simp only [vc] at h
   cases hjn:(zbI y).bind (find g.joins) with
   | none=>
     simp only [hjn] at h
     refine wp_mono (ihx hx a w _ hn h) fun e a1 w1 ⟨h1,k1⟩=>?_
     cases e with
     | normal=>exact wp_mono (ihy hy a1 w1 K k1.size h1) fun e a2 w2 h2=>fin e a1 a2 w2 k1 h2
     | _=>exact out _ _ _ h1 k1
   | some j=>
     obtain ⟨m,L⟩:=j
     simp only [hjn] at h hj
     obtain ⟨J,hb,hr⟩:=h
     refine wp_mono (ihx hx a w _ hn hb) fun e a1 w1 ⟨h1,k1⟩=>?_
     cases e with
     | normal=>
       have h2:=hr (za3 a1) w1 h1
       rw [zfi fun t ht=>k1.env t fun hmem=>by rw [List.all_eq_true.1 hj t hmem] at ht;cases ht] at h2
       exact wp_mono (ihy hy a1 w1 K k1.size h2) fun e a2 w2 h2=>fin e a1 a2 w2 k1 h2
     | _=>exact out _ _ _ h1 k1
 | cond c x y ihx ihy=>
   intro hok a w K hn h
   simp only [okC,Bool.and_eq_true] at hok
   simp only [vc,zkG] at h
   obtain ⟨b,hb,h⟩:=h
   have hb':a.eval c=.bool b:=by rw [←zmS];exact hb
   refine wp_cond hb' ?_
   cases b with
   | true=>
     simp only [if_true] at h ⊢
     rw [zmX hb] at h
     exact wp_mono (ihx hok.1 a w K hn h) fun e a' w' ⟨h1,k1⟩=>⟨h1,k1.trans (.refl [] k1.size) (fun t ht=>List.mem_append_left _ ht) (by simp)⟩
   | false=>
     simp only [Bool.false_eq_true,if_false] at h ⊢
     rw [zmX hb] at h
     exact wp_mono (ihy hok.2 a w K hn h) fun e a' w' ⟨h1,k1⟩=>⟨h1,k1.trans (.refl [] k1.size) (fun t ht=>List.mem_append_right _ ht) (by simp)⟩
 | block id c ih=>
   intro hok a w K hn h
   refine wp_block (wp_mono (ih hok a w _ hn h) fun e a' w' ⟨h1,k1⟩=>?_)
   cases e with
   | exit j=>
     simp only [Exit.inBlock,zrk] at h1 ⊢
     by_cases hji:j=id
     · subst hji
       simp only [Nat.beq_refl,cond_true] at h1
       simp only [if_true]
       exact ⟨h1,k1⟩
     have:Nat.beq j id=false:=by rw [Bool.eq_false_iff];exact fun e=>hji (Nat.eq_of_beq_eq_true e)
     rw [this] at h1
     simp only [hji,if_false]
     exact ⟨h1,k1⟩
   | _=>exact ⟨h1,k1⟩
 | loop c ih=>
   intro hok a w K hn h
   simp only [okC,Bool.and_eq_true] at hok
   simp only [vc] at h
   cases hl:(zbI c).bind (find g.loops) with
   | none=>simp [hl] at h
   | some x=>
     obtain ⟨m,L⟩:=x
     simp only [hl] at h
     have hj:=hok.2
     simp only [hl] at hj
     obtain ⟨I,m0,h0,hr⟩:=h
     refine zjD (fun m a' w'=>I m (L.map (za3 a')) w'∧Kept n (wrs c) a a') m0 ⟨h0,.refl _ hn⟩ ?_
     intro m1 a1 w1 ⟨h1,k1⟩
     have h2:=hr m1 (za3 a1) w1 h1
     rw [zfi fun t ht=>k1.env t fun hmem=>by rw [List.all_eq_true.1 hj t hmem] at ht;cases ht] at h2
     refine wp_mono (ih hok.1 a1 w1 _ k1.size h2) fun e a2 w2 ⟨h3,k2⟩=>?_
     cases e with
     | normal=>
       obtain ⟨m',hm',h4⟩:=h3
       exact ⟨m',hm',h4,k1.trans k2 (fun _ h=>h) (fun _ h=>h)⟩
     | _=>exact ⟨h3,k1.trans k2 (fun _ h=>h) (fun _ h=>h)⟩
 | _=>intro _ a w K hn h;exact (show False from h).elim
end
def zmY (tmps:Array Value):ResultVar→Sem Value
 | .tmp t=>pure (tmps.getD t undef)
 | .cell a t=>do loadVar t (←asAddr (tmps.getD a undef))
theorem zjE {P:Program} {a:Act} {w:World}:∀ (rs:List ResultVar) (k:List Value→Prop),zsV P (za3 a) w rs k →
   ∃ vs,(rs.mapM (zmY a.tmps)).run P w=.ok vs w∧k vs
 | [],k,h=>⟨[],by simp,h⟩
 | .tmp t :: r,k,h=>by
   obtain ⟨vs,hr,hk⟩:=zjE r _ h
   exact ⟨_,by simp only [List.mapM_cons,zmY,Sem.run_bind,Sem.run_pure,Result.andThen_ok,hr];rfl,hk⟩
 | .cell ad t :: r,k,h=>by
   obtain ⟨v,hv,h⟩:=h
   obtain ⟨vs,hr,hk⟩:=zjE r _ h
   have hv':=hv w (Ext.refl w)
   unfold zar za3 at hv'
   exact ⟨_,by simp only [List.mapM_cons];rw [Sem.run_bind,show (zmY a.tmps (.cell ad t)).run P w=_ from hv'];simp only [Result.andThen_ok,Sem.run_bind,hr,Sem.run_pure],hk⟩
theorem zhW {P:Program} {fn:Func} {a:Act} {w:World} {R:Value→World→Prop} (h:zsV P (za3 a) w fn.results.toList fun vs=>R (one vs) w) :
   ∃ v,(results fn a.tmps).run P w=.ok v w∧R v w:=by
 obtain ⟨vs,hr,hk⟩:=zjE _ _ h
 refine ⟨one vs,?_,hk⟩
 have he:results fn a.tmps=(do let vs ←fn.results.mapM (zmY a.tmps);pure (if h:vs.size=1 then vs[0] else .tuple vs)):=by
   unfold results
   congr 1
 rw [he,Array.mapM_eq_mapM_toList]
 simp only [Sem.run_bind,map_eq_pure_bind,hr,Result.andThen_ok,Sem.run_pure]
 match vs with
 | []=>rfl
 | [v]=>rfl
 | _ :: _ :: _=>rfl
def okF (g:Cfg) (N:Nat) (fn:Func):Bool:=match fn.body with | some c=>okC g N fn.ntmps c | none=>false
theorem zrT {P:Program} {g:Cfg} {N:Nat} (hE:∀ f,f<N→g.ext.elem f=false→zeW P f=true) (hm:P.follows .mixedOrders=true)
   {f:FuncId} {fn:Func} {args:List Value} {w:World} {R:Value→World→Prop} (hf:P.funcs[f]?=some fn) (hl:args.length≤fn.ntmps) (hok:okF g N fn=true)
   (h:vcF P g fn args w R):CALL P f args w R:=by
 unfold vcF at h
 unfold okF at hok
 cases hb:fn.body with
 | none=>simp [hb] at h
 | some c=>
   simp only [hb] at h hok
   refine ⟨calls_of_wp hf hb ?_⟩
   have henv:za3 { tmps:=args.toArray++Array.replicate (fn.ntmps-args.toArray.size) undef,defers:=[] }=ztN args:=by
     funext t
     unfold za3 ztN
     rw [zfw]
     simp only [Array.getD_eq_getD_getElem?,List.size_toArray]
     rcases Nat.lt_or_ge t args.length with ht | ht
     · rw [Array.getElem?_append_left (by simpa using ht)]
       simp [ht]
     rw [Array.getElem?_append_right (by simpa using ht)]
     simp only [List.getElem?_eq_none ht,Array.getElem?_replicate]
     split<;>rfl
   rw [←henv] at h
   refine wp_mono (zqs hE hm c hok _ w _ (by simp;omega) h) fun e a' w' ⟨h1,k1⟩=>?_
   have hd:a'.defers=[]:=k1.defers
   cases e with
   | normal=>
     obtain ⟨v,hv,hR⟩:=zhW h1
     exact ⟨hd,v,hv,v,rfl,hR⟩
   | ret=>
     obtain ⟨v,hv,hR⟩:=zhW h1
     exact ⟨hd,v,hv,v,rfl,hR⟩
   | _=>exact (show False from h1).elim
end Go.Sh
namespace Go.Sh
open Go.RowKit (Below)
def I64 (x:Int):Prop:=-9223372036854775808≤x∧x≤9223372036854775807
theorem zam:maxLen=9223372036854775807:=rfl
class Rep (α:Type) where
 size:Nat
 agg:Bool
 rep:List Nat→World→List Value→α→Prop
 pos:0<size
 sz:agg=false→size=1
 len:∀ {F w cs x},rep F w cs x→cs.length=size
 one:∀ {F w cs x},rep F w cs x→∀ v∈cs,v.oneCell'=true
 keep:∀ {F w w' cs x},rep F w cs x→(∀ b∈F,w'.heap[b]?=w.heap[b]?)→rep F w' cs x
 lt:∀ {F w cs x},rep F w cs x→∀ b∈F,b<w.heap.size
open Rep (rep)
def mkv (α:Type) [Rep α] (cs:List Value):Value:=bif Rep.agg α then .agg cs.toArray else cs.headD undef
section
variable {α β:Type} [Rep α] [Rep β]
def Is (w:World) (v:Value) (x:α):Prop:=∃ F cs,rep F w cs x∧v=mkv α cs
def At (w:World) (b o:Nat) (x:α):Prop:=∃ F cs,rep F w cs x∧w.rangeAt b o cs
def OwnF (F:List Nat) (w:World) (v:Value) (x:α):Prop:=∃ cs,rep F w cs x∧v=mkv α cs
def Wr (F:List Nat) (w:World):Prop:=∀ b∈F,∃ c e,w.heap[b]?=some (.cells c e (0,0))
structure Mine (F:List Nat) (w:World) (v:Value) (x:α):Prop where
 own:OwnF F w v x
 nodup:F.Nodup
 wr:Wr F w
def Own (lo:Nat) (w:World) (v:Value) (x:α):Prop:=∃ F,Mine F w v x∧∀ b∈F,lo≤b
theorem Ext.heap {w w':World} (h:Ext w w') {b:Nat} (hb:b<w.heap.size):w'.heap[b]?=w.heap[b]?:=h.block b hb
theorem zbV {F:List Nat} {w w':World} {cs:List Value} {x:α} (h:rep F w cs x) (hx:Ext w w'):rep F w' cs x:=
 Rep.keep h fun b hb=>hx.heap (Rep.lt h b hb)
theorem zgK {w:World} {b o:Nat} {cs:List Value} (h:w.rangeAt b o cs) (hc:0<cs.length):b<w.heap.size:=by
 have:=h 0 cs[0] (by simp [hc])
 exact World.block_lt_of_cell? w _ this
theorem zaY {w w':World} {b o:Nat} {cs:List Value} (h:w.rangeAt b o cs) (hb:w'.heap[b]?=w.heap[b]?):w'.rangeAt b o cs:=
 fun j v hv=>by rw [World.cell?_of_block (w:=w) hb];exact h j v hv
theorem zbW {w w':World} {b o:Nat} {cs:List Value} (h:w.rangeAt b o cs) (hx:Ext w w'):w'.rangeAt b o cs:=by
 intro j v hv
 have hb:=World.block_lt_of_cell? w _ (h j v hv)
 rw [World.cell?_of_block (w:=w) (hx.heap hb)];exact h j v hv
theorem Is.ext {w w':World} {v:Value} {x:α} (h:Is w v x) (hx:Ext w w'):Is w' v x:=by
 obtain ⟨F,cs,hr,hv⟩:=h;exact ⟨F,cs,zbV hr hx,hv⟩
theorem At.ext {w w':World} {b o:Nat} {x:α} (h:At w b o x) (hx:Ext w w'):At w' b o x:=by
 obtain ⟨F,cs,hr,hv⟩:=h;exact ⟨F,cs,zbV hr hx,zbW hv hx⟩
theorem OwnF.ext {F:List Nat} {w w':World} {v:Value} {x:α} (h:OwnF F w v x) (hx:Ext w w'):OwnF F w' v x:=by
 obtain ⟨cs,hr,hv⟩:=h;exact ⟨cs,zbV hr hx,hv⟩
theorem OwnF.keep {F:List Nat} {w w':World} {v:Value} {x:α} (h:OwnF F w v x) (hx:∀ b∈F,w'.heap[b]?=w.heap[b]?):OwnF F w' v x:=by
 obtain ⟨cs,hr,hv⟩:=h;exact ⟨cs,Rep.keep hr hx,hv⟩
theorem OwnF.is {F:List Nat} {w:World} {v:Value} {x:α} (h:OwnF F w v x):Is w v x:=by
 obtain ⟨cs,hr,hv⟩:=h;exact ⟨F,cs,hr,hv⟩
theorem OwnF.lt {F:List Nat} {w:World} {v:Value} {x:α} (h:OwnF F w v x):∀ b∈F,b<w.heap.size:=by
 obtain ⟨cs,hr,hv⟩:=h;exact Rep.lt hr
theorem Wr.keep {F:List Nat} {w w':World} (h:Wr F w) (hk:∀ b∈F,w'.heap[b]?=w.heap[b]?):Wr F w':=fun b hb=>by
 obtain ⟨c,e,he⟩:=h b hb;exact ⟨c,e,by rw [hk b hb];exact he⟩
theorem Wr.lt {F:List Nat} {w:World} (h:Wr F w):∀ b∈F,b<w.heap.size:=fun b hb=>by
 obtain ⟨c,e,he⟩:=h b hb;exact (Array.getElem?_eq_some_iff.1 he).1
theorem Wr.ext {F:List Nat} {w w':World} (h:Wr F w) (hx:Ext w w'):Wr F w':=h.keep fun b hb=>hx.heap (h.lt b hb)
theorem Wr.nil (w:World):Wr [] w:=fun b hb=>by cases hb
theorem Wr.append {F G:List Nat} {w:World} (h:Wr F w) (k:Wr G w):Wr (F++G) w:=fun b hb=>by
 rcases List.mem_append.1 hb with hb | hb
 · exact h b hb
 exact k b hb
theorem Wr.sub {F G:List Nat} {w:World} (h:Wr F w) (hs:∀ b∈G,b∈F):Wr G w:=fun b hb=>h b (hs b hb)
theorem Mine.keep {F:List Nat} {w w':World} {v:Value} {x:α} (h:Mine F w v x) (hk:∀ b∈F,w'.heap[b]?=w.heap[b]?):Mine F w' v x:=⟨h.own.keep hk,h.nodup,h.wr.keep hk⟩
theorem Mine.ext {F:List Nat} {w w':World} {v:Value} {x:α} (h:Mine F w v x) (hx:Ext w w'):Mine F w' v x:=⟨h.own.ext hx,h.nodup,h.wr.ext hx⟩
theorem Mine.is {F:List Nat} {w:World} {v:Value} {x:α} (h:Mine F w v x):Is w v x:=h.own.is
theorem Mine.lt {F:List Nat} {w:World} {v:Value} {x:α} (h:Mine F w v x):∀ b∈F,b<w.heap.size:=h.own.lt
theorem Own.ext {lo:Nat} {w w':World} {v:Value} {x:α} (h:Own lo w v x) (hx:Ext w w'):Own lo w' v x:=by
 obtain ⟨F,hm,hl⟩:=h;exact ⟨F,hm.ext hx,hl⟩
theorem Own.is {lo:Nat} {w:World} {v:Value} {x:α} (h:Own lo w v x):Is w v x:=by
 obtain ⟨F,hm,hl⟩:=h;exact hm.is
theorem Own.mono {lo lo':Nat} {w:World} {v:Value} {x:α} (h:Own lo w v x) (hl:lo'≤lo):Own lo' w v x:=by
 obtain ⟨F,hm,hb⟩:=h;exact ⟨F,hm,fun b hb'=>Nat.le_trans hl (hb b hb')⟩
end
instance:Rep Int where
 size:=1
 agg:=false
 rep F _ cs x:=F=[]∧cs=[.int .i64 x]∧I64 x
 pos:=by decide
 sz _:=rfl
 len:=by rintro _ _ _ _ ⟨_,rfl,_⟩;rfl
 one:=by rintro _ _ _ _ ⟨_,rfl,_⟩ v hv;simp at hv;subst hv;rfl
 keep:=by rintro _ _ _ _ _ h _;exact h
 lt:=by rintro _ _ _ _ ⟨rfl,_⟩ b hb;cases hb
instance:Rep Bool where
 size:=1
 agg:=false
 rep F _ cs x:=F=[]∧cs=[.bool x]
 pos:=by decide
 sz _:=rfl
 len:=by rintro _ _ _ _ ⟨_,rfl⟩;rfl
 one:=by rintro _ _ _ _ ⟨_,rfl⟩ v hv;simp at hv;subst hv;rfl
 keep:=by rintro _ _ _ _ _ h _;exact h
 lt:=by rintro _ _ _ _ ⟨rfl,_⟩ b hb;cases hb
instance:Rep ByteArray where
 size:=1
 agg:=false
 rep F _ cs x:=F=[]∧cs=[.string x]∧x.size≤maxLen
 pos:=by decide
 sz _:=rfl
 len:=by rintro _ _ _ _ ⟨_,rfl,_⟩;rfl
 one:=by rintro _ _ _ _ ⟨_,rfl,_⟩ v hv;simp at hv;subst hv;rfl
 keep:=by rintro _ _ _ _ _ h _;exact h
 lt:=by rintro _ _ _ _ ⟨rfl,_⟩ b hb;cases hb
instance {α β:Type} [Rep α] [Rep β]:Rep (α×β) where
 size:=Rep.size α+Rep.size β
 agg:=true
 rep F w cs x:=∃ F1 F2 c1 c2,F=F1++F2∧cs=c1++c2∧rep F1 w c1 x.1∧rep F2 w c2 x.2
 pos:=by have:=Rep.pos (α:=α);omega
 sz h:=by cases h
 len:=by rintro _ _ _ _ ⟨F1,F2,c1,c2,rfl,rfl,h1,h2⟩;rw [List.length_append,Rep.len h1,Rep.len h2]
 one:=by
   rintro _ _ _ _ ⟨F1,F2,c1,c2,rfl,rfl,h1,h2⟩ v hv
   rcases List.mem_append.1 hv with hv | hv
   · exact Rep.one h1 v hv
   exact Rep.one h2 v hv
 keep:=by
   rintro _ _ _ _ _ ⟨F1,F2,c1,c2,rfl,rfl,h1,h2⟩ hk
   exact ⟨F1,F2,c1,c2,rfl,rfl,Rep.keep h1 fun b hb=>hk b (by simp [hb]),Rep.keep h2 fun b hb=>hk b (by simp [hb])⟩
 lt:=by
   rintro _ _ _ _ ⟨F1,F2,c1,c2,rfl,rfl,h1,h2⟩ b hb
   rcases List.mem_append.1 hb with hb | hb
   · exact Rep.lt h1 b hb
   exact Rep.lt h2 b hb
@[reducible] def Rep.via {α β:Type} [Rep β] (f:α→β):Rep α where
 size:=Rep.size β
 agg:=true
 rep F w cs x:=rep F w cs (f x)
 pos:=Rep.pos
 sz h:=by cases h
 len h:=Rep.len h
 one h:=Rep.one h
 keep h:=Rep.keep h
 lt h:=Rep.lt h
def Cells {α:Type} [Rep α]:List Nat→World→List Value→List α→Prop
 | F,_,xs,[]=>F=[]∧xs=[]
 | F,w,xs,y :: ys=>∃ F1 F2 c1 c2,F=F1++F2∧xs=c1++c2∧rep F1 w c1 y∧Cells F2 w c2 ys
section
variable {α:Type} [Rep α]
theorem Cells.len {w:World}:∀ {l:List α} {F:List Nat} {xs:List Value},Cells F w xs l→xs.length=l.length*Rep.size α
 | [],_,_,⟨_,h⟩=>by simp [h]
 | y :: ys,_,_,⟨F1,F2,c1,c2,_,h,h1,h2⟩=>by rw [h,List.length_append,Rep.len h1,Cells.len h2,List.length_cons,Nat.add_mul];omega
theorem Cells.one {w:World}:∀ {l:List α} {F:List Nat} {xs:List Value},Cells F w xs l→∀ v∈xs,v.oneCell'=true
 | [],_,_,⟨_,h⟩,v,hv=>by rw [h] at hv;cases hv
 | y :: ys,_,_,⟨F1,F2,c1,c2,_,h,h1,h2⟩,v,hv=>by
   rw [h] at hv
   rcases List.mem_append.1 hv with hv | hv
   · exact Rep.one h1 v hv
   exact Cells.one h2 v hv
theorem Cells.keep {w w':World}:∀ {l:List α} {F:List Nat} {xs:List Value},Cells F w xs l→(∀ b∈F,w'.heap[b]?=w.heap[b]?)→Cells F w' xs l
 | [],_,_,h,_=>h
 | y :: ys,_,_,⟨F1,F2,c1,c2,hF,h,h1,h2⟩,hk=>
   ⟨F1,F2,c1,c2,hF,h,Rep.keep h1 fun b hb=>hk b (by rw [hF];simp [hb]),Cells.keep h2 fun b hb=>hk b (by rw [hF];simp [hb])⟩
theorem Cells.lt {w:World}:∀ {l:List α} {F:List Nat} {xs:List Value},Cells F w xs l→∀ b∈F,b<w.heap.size
 | [],_,_,⟨h,_⟩,b,hb=>by rw [h] at hb;cases hb
 | y :: ys,_,_,⟨F1,F2,c1,c2,hF,h,h1,h2⟩,b,hb=>by
   rw [hF] at hb
   rcases List.mem_append.1 hb with hb | hb
   · exact Rep.lt h1 b hb
   exact Cells.lt h2 b hb
theorem Cells.append {w:World}:∀ {l m:List α} {F G:List Nat} {xs ys:List Value},Cells F w xs l→Cells G w ys m→Cells (F++G) w (xs++ys) (l++m)
 | [],_,_,_,_,_,⟨hF,hx⟩,k=>by subst hF hx;exact k
 | y :: l,_,_,_,_,_,⟨F1,F2,c1,c2,hF,hx,h1,h2⟩,k=>by
   subst hF hx
   exact ⟨F1,F2++_,c1,c2++_,by simp,by simp,h1,Cells.append h2 k⟩
theorem Cells.split {w:World}:∀ {l m:List α} {F:List Nat} {xs:List Value},Cells F w xs (l++m)→∃ F1 F2 x1 x2,F=F1++F2∧xs=x1++x2∧Cells F1 w x1 l∧Cells F2 w x2 m
 | [],_,F,xs,h=>⟨[],F,[],xs,rfl,rfl,⟨rfl,rfl⟩,h⟩
 | y :: l,m,_,_,⟨F1,F2,c1,c2,hF,hx,h1,h2⟩=>by
   obtain ⟨G1,G2,x1,x2,rfl,rfl,k1,k2⟩:=Cells.split h2
   exact ⟨F1++G1,G2,c1++x1,x2,by simp [hF],by simp [hx],⟨F1,G1,c1,x1,rfl,rfl,h1,k1⟩,k2⟩
theorem Cells.single {w:World} {F:List Nat} {cs:List Value} {x:α} (h:rep F w cs x):Cells F w cs [x]:=⟨F,[],cs,[],by simp,by simp,h,rfl,rfl⟩
end
instance {α:Type} [Rep α]:Rep (List α) where
 size:=1
 agg:=false
 rep F w cs l:=∃ a cap Fi xs,cs=[.slice a l.length cap]∧l.length≤cap∧cap≤maxLen∧Cells Fi w xs l ∧
   ((l=[]∧F=[])∨∃ b o,a=some ⟨b,o,none⟩∧F=b :: Fi∧w.rangeAt b o xs∧b<w.heap.size)
 pos:=by decide
 sz _:=rfl
 len:=by rintro _ _ _ _ ⟨_,_,_,_,rfl,_⟩;rfl
 one:=by rintro _ _ _ _ ⟨_,_,_,_,rfl,_⟩ v hv;simp at hv;subst hv;rfl
 keep:=by
   rintro _ _ _ _ _ ⟨a,cap,Fi,xs,hcs,h1,h2,hc,h⟩ hk
   rcases h with ⟨rfl,rfl⟩ | ⟨b,o,ha,hF,hr,hb⟩
   · exact ⟨a,cap,Fi,xs,hcs,h1,h2,hc,.inl ⟨rfl,rfl⟩⟩
   subst hF
   have hbb:=hk b (by simp)
   refine ⟨a,cap,Fi,xs,hcs,h1,h2,Cells.keep hc fun c hc=>hk c (by simp [hc]),.inr ⟨b,o,ha,rfl,zaY hr hbb,?_⟩⟩
   rcases Nat.lt_or_ge b (Array.size (World.heap _)) with h' | h'
   · exact h'
   rw [Array.getElem?_eq_none h'] at hbb
   simp [Array.getElem?_eq_getElem hb] at hbb
 lt:=by
   rintro _ _ _ _ ⟨a,cap,Fi,xs,hcs,h1,h2,hc,h⟩ c hm
   rcases h with ⟨rfl,rfl⟩ | ⟨b,o,ha,hF,hr,hb⟩
   · cases hm
   subst hF
   rcases List.mem_cons.1 hm with rfl | hm
   · exact hb
   exact Cells.lt hc c hm
end Go.Sh
namespace Go.Sh
open Go.RowKit (Below)
open Rep (rep)
theorem br {p:Prop} [Decidable p] {kt kf:Prop} (h1:p→kt) (h2:¬p→kf):BR (.bool (decide p)) kt kf:=by
 by_cases h:p
 · simp only [h,decide_true];exact h1 h
 simp only [h,decide_false];exact h2 h
theorem zcM {b:Bool} {kt kf:Prop} (h1:b=true→kt) (h2:b=false→kf):BR (.bool b) kt kf:=by
 cases b
 · exact h2 rfl
 exact h1 rfl
theorem gbr {p:Prop} [Decidable p] {kt kf ks:Prop} (h1:p→kt) (h2:¬p→kf):GBR (.bool (decide p)) kt kf ks:=by
 by_cases h:p
 · simp only [h,decide_true];exact h1 h
 simp only [h,decide_false];exact h2 h
theorem zqt {b:Bool} {kt kf ks:Prop} (h1:b=true→kt) (h2:b=false→kf):GBR (.bool b) kt kf ks:=by
 cases b
 · exact h2 rfl
 exact h1 rfl
theorem zaE {L:List Nat} {init:List Value} {w:World} {body:Env→World→(List Value→World→Prop)→Prop} (n:Nat) (I:Nat→List Value→World→Prop) (k0:Nat) (hk:k0≤n) (h0:I k0 init w)
   (hr:∀ k m u w',k+m=n→I k (L.map u) w'→body u w' (fun us w''=>∃ m',m'<m∧∃ k',k'+m'=n∧I k' us w'')):LOOPI L init w body:=
 .mk (fun m us w=>∃ k,k+m=n∧I k us w) (n-k0) ⟨k0,by omega,h0⟩ (fun m u w' ⟨k,hk,h⟩=>hr k m u w' hk h)
section
variable {P:Program} {w w0:World} {K:Value→Prop}
theorem zaV {m:Sem Value} {v:Value} (h:∀ w',Ext w w'→m.run P w'=.ok v w') (k:K v):RD P m w K:=⟨v,h,k⟩
section zug
variable {t:TypeId} {x y:Operand} {a b:Int} {kd:IntKind}
theorem zai (k:K (.bool (decide (a<b)))):RD P (bin .lss t x y (.int kd a) (.int kd b)) w K:=zaV (fun w' _=>by simp [bin,eqGuard,binOp,Op.intCmp]) k
theorem zcO (k:K (.bool (decide (a≤b)))):RD P (bin .leq t x y (.int kd a) (.int kd b)) w K:=zaV (fun w' _=>by simp [bin,eqGuard,binOp,Op.intCmp]) k
theorem zb0 (k:K (.bool (decide (b<a)))):RD P (bin .gtr t x y (.int kd a) (.int kd b)) w K:=zaV (fun w' _=>by simp [bin,eqGuard,binOp,Op.intCmp]) k
theorem zb1 (k:K (.bool (decide (b≤a)))):RD P (bin .geq t x y (.int kd a) (.int kd b)) w K:=zaV (fun w' _=>by simp [bin,eqGuard,binOp,Op.intCmp]) k
theorem zag (k:K (.bool (decide (a=b)))):RD P (bin .eql t x y (.int kd a) (.int kd b)) w K:=
 zaV (fun w' _=>by simp [bin,eqGuard,binOp,Op.intCmp];rfl) k
theorem zaM (k:K (.bool (decide (a≠b)))):RD P (bin .neq t x y (.int kd a) (.int kd b)) w K:=
 zaV (fun w' _=>by simp [bin,eqGuard,binOp,Op.intCmp];rfl) k
theorem zcp (h:I64 (a+b)) (k:K (.int .i64 (a+b))):RD P (bin .add t x y (.int .i64 a) (.int .i64 b)) w K:=
 zaV (fun w' _=>by simp [bin,eqGuard,binOp,Op.intArith,IntWalk.i64_in _ h]) k
theorem za2 (h:I64 (a-b)) (k:K (.int .i64 (a-b))):RD P (bin .sub t x y (.int .i64 a) (.int .i64 b)) w K:=
 zaV (fun w' _=>by simp [bin,eqGuard,binOp,Op.intArith,IntWalk.i64_in _ h]) k
theorem zkK (h:I64 (a*b)) (k:K (.int .i64 (a*b))):RD P (bin .mul t x y (.int .i64 a) (.int .i64 b)) w K:=
 zaV (fun w' _=>by simp [bin,eqGuard,binOp,Op.intArith,IntWalk.i64_in _ h]) k
theorem zah {n:Nat} (h:n<9223372036854775807) (k:K (.int .i64 ((n+1:Nat):Int))):RD P (bin .add t x y (.int .i64 (n:Int)) (.int .i64 1)) w K:=
 zcp (by unfold I64;omega) (by simpa using k)
theorem zoM (hb:b≠0) (k:K (.int kd (a.tmod b))):RD P (bin .rem t x y (.int kd a) (.int kd b)) w K:=
 zaV (fun w' _=>by simp [bin,eqGuard,binOp,Op.intDiv,hb]) k
theorem zqu {m n:Nat} (hm:m<4611686018427387904) (hn:n<4611686018427387904) (k:K (.int .i64 ((m ||| n:Nat):Int))):RD P (bin .or t x y (.int .i64 (m:Int)) (.int .i64 (n:Int))) w K:=by
 have hlt:m ||| n<2^62:=Nat.or_lt_two_pow hm hn
 refine zaV (fun w' _=>?_) k
 have e1:IntKind.i64.wrap ((m ||| n:Nat):Int)=((m ||| n:Nat):Int):=IntWalk.i64_in _ (by omega)
 have e2:((BitVec.ofInt 64 (m:Int)) ||| (BitVec.ofInt 64 (n:Int))).toNat=m ||| n:=by
   simp only [BitVec.toNat_or,BitVec.ofInt_natCast,BitVec.toNat_ofNat]
   rw [Nat.mod_eq_of_lt (by omega),Nat.mod_eq_of_lt (by omega)]
 show (do eqGuard .or t x y (.int .i64 (m:Int)) (.int .i64 (n:Int));binOp .or t (.int .i64 (m:Int)) (.int .i64 (n:Int)):Sem Value).run P w'=_
 simp only [eqGuard,binOp,Op.intBits]
 show Result.ok (Value.int .i64 (IntKind.i64.wrap (((BitVec.ofInt 64 (m:Int)) ||| (BitVec.ofInt 64 (n:Int))).toNat:Nat))) w'=_
 rw [e2,e1]
theorem zlX {n:Nat} {ku:IntKind} (hn:n<62) (k:K (.int .i64 ((2^n:Nat):Int))):RD P (bin .shl t x y (.int .i64 1) (.int ku (n:Int))) w K:=by
 refine zaV (fun w' _=>?_) k
 have hp:(2^n:Nat)<4611686018427387904:=Nat.pow_lt_pow_right (by omega) hn
 have e1:IntKind.i64.wrap ((2^n:Nat):Int)=((2^n:Nat):Int):=by generalize 2^n=q at hp;exact IntWalk.i64_in _ (by omega)
 have e0:¬((n:Int)<0):=by omega
 have e2:min n 64=n:=by omega
 show (do eqGuard .shl t x y (.int .i64 1) (.int ku (n:Int));binOp .shl t (.int .i64 1) (.int ku (n:Int)):Sem Value).run P w'=_
 simp only [eqGuard,binOp,Op.shift,e0,if_false,Int.toNat_natCast]
 show Result.ok (Value.int .i64 (IntKind.i64.wrap ((1:Int)*2^(min n 64)))) w'=_
 rw [e2,←e1]
 simp
theorem zhX {src dst:TypeId} {n:Nat} (hs:(P.underlying src).isSome=true) (hd:P.underlying dst=some (.int .u64)) (hn:n<9223372036854775808) (k:K (.int .u64 (n:Int))):RD P (convert src dst (.int .i64 (n:Int))) w K:=by
 refine zaV (fun w' _=>?_) k
 obtain ⟨d,hd'⟩:=Option.isSome_iff_exists.mp hs
 have:IntKind.u64.wrap (n:Int)=n:=by simp [IntKind.wrap,IntKind.signed,IntKind.bits];omega
 simp [convert,run_underlying hd',run_underlying hd,Conv.intToInt,this]
end zug
theorem zbs {b:Bool} (k:K (.bool (!b))):RD P (Op.unary .not (.bool b)) w K:=zaV (fun _ _=>rfl) k
theorem zas {p:Prop} [Decidable p] (k:K (.bool (decide (¬p)))):RD P (Op.unary .not (.bool (decide p))) w K:=
 zaV (fun w' _=>by simp [Op.unary]) k
theorem zkL {t e:TypeId} {x y:Operand} {a:Option Addr} {n c:Nat} (ht:P.underlying t=some (.slice e)) (k:K (.bool a.isNone)):RD P (bin .eql t x y (.slice a n c) (.slice none 0 0)) w K:=
 zaV (fun w' _=>by simp only [bin,eqGuard,binOp];simp [run_equal_slice_nil w' t e a n c ht]) k
theorem za7 {vs:Array Value} {i:Nat} {v:Value} (h:vs[i]?=some v) (k:K v):RD P (Instr.extract (.tuple vs) i) w K:=
 zaV (fun w' _=>by simp [Instr.extract,h]) k
theorem zs7 {v:Value} {x:Int}:Is w v x↔v=.int .i64 x∧I64 x:=by
 constructor
 · rintro ⟨F,cs,⟨_,rfl,h⟩,rfl⟩;exact ⟨rfl,h⟩
 rintro ⟨rfl,h⟩;exact ⟨[],_,⟨rfl,rfl,h⟩,rfl⟩
theorem zrU {v:Value} {x:Bool}:Is w v x↔v=.bool x:=by
 constructor
 · rintro ⟨F,cs,⟨_,rfl⟩,rfl⟩;rfl
 rintro rfl;exact ⟨[],_,⟨rfl,rfl⟩,rfl⟩
theorem zs8 {v:Value} {x:ByteArray}:Is w v x↔v=.string x∧x.size≤maxLen:=by
 constructor
 · rintro ⟨F,cs,⟨_,rfl,h⟩,rfl⟩;exact ⟨rfl,h⟩
 rintro ⟨rfl,h⟩;exact ⟨[],_,⟨rfl,rfl,h⟩,rfl⟩
section strings
def bts (s:ByteArray):List UInt8:=s.data.toList
theorem zaX (s:ByteArray):(bts s).length=s.size:=by simp [bts]
theorem zrV {a b:ByteArray} (h:bts a=bts b):a=b:=by
 obtain ⟨⟨x⟩⟩:=a
 obtain ⟨⟨y⟩⟩:=b
 simp only [bts] at h
 rw [h]
instance decMemBA:∀ (s:ByteArray) (l:List ByteArray),Decidable (s∈l)
 | s,[]=>isFalse (by simp)
 | s,x :: l=>if h:s=x then isTrue (by simp [h]) else match decMemBA s l with
   | isTrue h'=>isTrue (by simp [h'])
   | isFalse h'=>isFalse (by simp [h,h'])
theorem zdx {t ty:TypeId} {s:ByteArray} (ht:P.underlying t=some .string) (k:K (.int .i64 (s.size:Int))):RD P (Builtin.len_ #[t] ty [Value.string s].toArray) w K:=
 zaV (fun w' _=>by simp [Builtin.len_,run_underlying ht];rfl) k
theorem zcF {t:TypeId} {s:ByteArray} {i:Nat} (ht:P.underlying t=some .string) (hi:i<s.size) (k:K (.int .u8 (((bts s)[i]'(by rw [zaX];exact hi)).toNat:Int))):RD P (Instr.index t (.string s) (.int .i64 (i:Int))) w K:=by
 refine zaV (fun w' _=>?_) k
 have h1:s[i]?=some ((bts s)[i]'(by rw [zaX];exact hi)):=by
   rw [getElem?_pos s i hi];rfl
 simp [Instr.index,asIntOf,run_underlying ht,h1]
theorem zoN (a b:ByteArray):(a.toList == b.toList)=decide (a=b):=by
 rw [ByteArray.toList_eq,ByteArray.toList_eq]
 by_cases h:a=b
 · subst h;simp
 have:¬a.data.toList=b.data.toList:=fun e=>h (zrV e)
 simp only [h,decide_false]
 simpa using this
theorem zay {t:TypeId} {x y:Operand} {a b:ByteArray} (k:K (.bool (decide (a=b)))):RD P (bin .eql t x y (.string a) (.string b)) w K:=
 zaV (fun w' _=>by simp only [bin,eqGuard,binOp,Op.stringOp,zoN];rfl) k
theorem zjF {t:TypeId} {x y:Operand} {a b:ByteArray} (k:K (.bool (decide (a≠b)))):RD P (bin .neq t x y (.string a) (.string b)) w K:=
 zaV (fun w' _=>by simp only [bin,eqGuard,binOp,Op.stringOp,zoN];simp) k
end strings
section data
variable {α β:Type} [Rep α] [Rep β]
theorem zcq {v:Value} {l:List α} (h:Is w v l):∃ a cap Fi xs,v=.slice a l.length cap∧l.length≤cap∧cap≤maxLen∧Cells Fi w xs l ∧
   (l=[]∨∃ b o,a=some ⟨b,o,none⟩∧w.rangeAt b o xs∧b<w.heap.size):=by
 obtain ⟨F,cs,⟨a,cap,Fi,xs,rfl,h1,h2,h3,h4⟩,rfl⟩:=h
 refine ⟨a,cap,Fi,xs,rfl,h1,h2,h3,?_⟩
 rcases h4 with ⟨h,_⟩ | ⟨b,o,ha,_,hr,hb⟩
 · exact .inl h
 exact .inr ⟨b,o,ha,hr,hb⟩
theorem zaf {v:Value} {l:List α} (h:Is w v l):l.length≤9223372036854775807:=by
 obtain ⟨a,cap,Fi,xs,_,h1,h2,_⟩:=zcq h
 rw [zam] at h2;omega
theorem zs9 {v:Value} (h:v=.slice none 0 0):Is w v ([]:List α):=by
 subst h;exact ⟨[],_,⟨none,0,[],[],rfl,Nat.le_refl _,Nat.zero_le _,⟨rfl,rfl⟩,.inl ⟨rfl,rfl⟩⟩,rfl⟩
theorem zfD {lo:Nat} {v:Value} (h:v=.slice none 0 0):Own lo w v ([]:List α):=by
 subst h;exact ⟨[],⟨⟨_,⟨none,0,[],[],rfl,Nat.le_refl _,Nat.zero_le _,⟨rfl,rfl⟩,.inl ⟨rfl,rfl⟩⟩,rfl⟩,List.nodup_nil,Wr.nil w⟩,by simp⟩
theorem zae {t ty e:TypeId} {v:Value} {l:List α} (ht:P.underlying t=some (.slice e)) (h:Is w0 v l) (k:K (.int .i64 (l.length:Int))) :
   RD P (Builtin.len_ #[t] ty [v].toArray) w K:=by
 obtain ⟨a,cap,Fi,xs,rfl,_⟩:=zcq h
 exact zaV (fun w' _=>by simp [Builtin.len_,run_underlying ht];rfl) k
theorem zaB {b o:Nat} {x y:List Value} (h:w.rangeAt b o (x++y)):w.rangeAt b o x∧w.rangeAt b (o+x.length) y:=by
 refine ⟨fun j v hv=>h j v ?_,fun j v hv=>?_⟩
 · rw [List.getElem?_append_left (List.getElem?_eq_some_iff.1 hv).1];exact hv
 have:=h (x.length+j) v (by rw [List.getElem?_append_right (by omega)];simpa using hv)
 rwa [←Nat.add_assoc] at this
theorem zdL {b o:Nat} {x y:List Value} (h:w.rangeAt b o x) (k:w.rangeAt b (o+x.length) y):w.rangeAt b o (x++y):=by
 intro j v hv
 rcases Nat.lt_or_ge j x.length with hj | hj
 · rw [List.getElem?_append_left hj] at hv;exact h j v hv
 rw [List.getElem?_append_right hj] at hv
 have:=k (j-x.length) v hv
 rwa [show o+x.length+(j-x.length)=o+j by omega] at this
theorem Cells.at {F:List Nat} {xs:List Value} {l:List α} {b o i:Nat} (h:Cells F w xs l) (hr:w.rangeAt b o xs) (hi:i<l.length):At w b (o+i*Rep.size α) l[i]:=by
 have e:l=l.take i++(l[i] :: l.drop (i+1)):=by simp
 rw [e] at h
 obtain ⟨F1,F2,x1,x2,rfl,rfl,h1,h2⟩:=Cells.split h
 obtain ⟨G1,G2,c1,c2,rfl,rfl,k1,k2⟩:=h2
 have hl:x1.length=i*Rep.size α:=by rw [Cells.len h1,List.length_take];congr 1;omega
 have:=zaB (zaB hr).2
 rw [hl] at this
 exact ⟨G1,c1,k1,this.1⟩
def tyI (P:Program) (t:TypeId):Option (Nat×Nat×Bool):=
 match P.info? t,P.underlying t with
 | some i,some d=>some (i.size,i.bytes,d.isRow)
 | _,_=>none
theorem zcv {t s by_:Nat} {g:Bool} (h:tyI P t=some (s,by_,g)):∃ i d,P.info? t=some i∧P.underlying t=some d∧i.size=s∧i.bytes=by_∧d.isRow=g:=by
 unfold tyI at h
 cases hi:P.info? t with
 | none=>simp [hi] at h
 | some i=>
   cases hd:P.underlying t with
   | none=>simp [hi,hd] at h
   | some d=>simp only [hi,hd,Option.some.injEq,Prod.mk.injEq] at h;exact ⟨i,d,rfl,rfl,h.1,h.2.1,h.2.2⟩
theorem zaD {t s by_:Nat} {g:Bool} (h:tyI P t=some (s,by_,g)) (w:World):(sizeOf t).run P w=.ok s w:=by
 obtain ⟨i,d,hi,hd,hs,_⟩:=zcv h
 simp [sizeOf,typeInfo,hi,hs]
theorem zb2 {t s by_:Nat} {g:Bool} (h:tyI P t=some (s,by_,g)) (w:World):(isAgg t).run P w=.ok g w:=by
 obtain ⟨i,d,hi,hd,hs,_,hg⟩:=zcv h
 unfold isAgg
 rw [Sem.run_bind,run_underlying hd w]
 cases d<;>subst hg<;>simp
theorem zbg {t e:TypeId} {b o n cap s by_:Nat} {g:Bool} {i:Int} (ht:P.underlying t=some (.slice e)) (he:tyI P e=some (s,by_,g)) (h0:0≤i) (h1:i<n) (w:World) :
   (Instr.indexAt t (.slice (some ⟨b,o,none⟩) n cap) (.int .i64 i)).run P w=.ok (.pointer (some ⟨b,o+i.toNat*s,none⟩)) w:=by
 simp [Instr.indexAt,run_underlying ht,asIntOf,h0,h1,zaD he,Addr.add_mid]
theorem zat {t e:TypeId} {by_:Nat} {v:Value} {l:List α} {i:Int} (ht:P.underlying t=some (.slice e)) (he:tyI P e=some (Rep.size α,by_,Rep.agg α)) (h:Is w0 v l) (h0:0≤i) (h1:i.toNat<l.length)
   (k:∀ b o,At w0 b o (l[i.toNat]'h1)→K (.pointer (some ⟨b,o,none⟩))):RD P (Instr.indexAt t v (.int .i64 i)) w K:=by
 obtain ⟨a,cap,Fi,xs,rfl,_,_,hc,hh⟩:=zcq h
 rcases hh with rfl | ⟨b,o,rfl,hr,hb⟩
 · simp at h1
 exact zaV (fun w' _=>zbg ht he h0 (by omega) w') (k _ _ (Cells.at hc hr h1))
theorem zad {t e:TypeId} {by_:Nat} {v:Value} {l:List α} {i:Nat} (ht:P.underlying t=some (.slice e)) (he:tyI P e=some (Rep.size α,by_,Rep.agg α)) (h:Is w0 v l) (h1:i<l.length)
   (k:∀ b o,At w0 b o l[i]→K (.pointer (some ⟨b,o,none⟩))):RD P (Instr.indexAt t v (.int .i64 (i:Int))) w K:=
 zat ht he h (by omega) (by simpa using h1) (fun b o hA=>k b o (by simpa using hA))
theorem zer {t by_ b o:Nat} {F:List Nat} {cs:List Value} {x:α} (ht:tyI P t=some (Rep.size α,by_,Rep.agg α)) (hr:rep F w cs x) (hc:w.rangeAt b o cs) :
   (Instr.loadAt t (.pointer (some ⟨b,o,none⟩))).run P w=.ok (mkv α cs) w:=by
 obtain ⟨i,d,hi,hd,hs,_,hg⟩:=zcv ht
 have hl:=Rep.len hr
 cases hag:Rep.agg α with
 | true=>
   rw [run_loadAt_mid w b o t cs d hc hd (by rw [hg,hag]) (by simp [hi,hs,hl])]
   simp [mkv,hag]
 | false=>
   have h1:=Rep.sz hag
   rw [h1] at hl
   obtain ⟨c,rfl⟩:=List.length_eq_one_iff.1 hl
   have h0:w.cell? ⟨b,o,none⟩=some c:=by simpa using hc 0 c rfl
   have hA:=zb2 ht w
   rw [hag] at hA
   simp [Instr.loadAt,Instr.sureAddr,loadVar,hA,h0,mkv,hag]
theorem zab {t by_ b o:Nat} {x:α} (ht:tyI P t=some (Rep.size α,by_,Rep.agg α)) (h:At w0 b o x) (hx:Ext w0 w) (k:∀ v,Is w0 v x→K v) :
   RD P (Instr.loadAt t (.pointer (some ⟨b,o,none⟩))) w K:=by
 obtain ⟨F,cs,hr,hc⟩:=h
 exact zaV (fun w' hx'=>zer ht (zbV hr (hx.trans hx')) (zbW hc (hx.trans hx'))) (k _ ⟨F,cs,hr,rfl⟩)
theorem zac {t by_ b o:Nat} {x:Int} (ht:tyI P t=some (1,by_,false)) (h:At w0 b o x) (hx:Ext w0 w) (k:I64 x→K (.int .i64 x)) :
   RD P (Instr.loadAt t (.pointer (some ⟨b,o,none⟩))) w K:=
 zab (α:=Int) ht h hx fun v hv=>by obtain ⟨rfl,h⟩:=zs7.1 hv;exact k h
theorem zao {t by_ b o:Nat} {x:ByteArray} (ht:tyI P t=some (1,by_,false)) (h:At w0 b o x) (hx:Ext w0 w) (k:x.size≤maxLen→K (.string x)) :
   RD P (Instr.loadAt t (.pointer (some ⟨b,o,none⟩))) w K:=
 zab (α:=ByteArray) ht h hx fun v hv=>by obtain ⟨rfl,h⟩:=zs8.1 hv;exact k h
theorem zhB {t by_ b o:Nat} {x:Bool} (ht:tyI P t=some (1,by_,false)) (h:At w0 b o x) (hx:Ext w0 w) (k:K (.bool x)) :
   RD P (Instr.loadAt t (.pointer (some ⟨b,o,none⟩))) w K:=
 zab (α:=Bool) ht h hx fun v hv=>by obtain rfl:=zrU.1 hv;exact k
def zdn (P:Program) (t:TypeId) (i:Nat):Option Nat:=
 match P.underlying t with
 | some (.struct fs)=>match fs[i]? with
   | some f=>match P.info? f.type with
     | some j=>bif Nat.beq j.size 0 then none else some f.offset
     | none=>none
   | none=>none
 | _=>none
theorem zaa {t i off b o:Nat} (hf:zdn P t i=some off) (k:K (.pointer (some ⟨b,o+off,none⟩))):RD P (Instr.fieldAt t (.pointer (some ⟨b,o,none⟩)) i) w K:=by
 refine zaV (fun w' _=>?_) k
 unfold zdn at hf
 cases hu:P.underlying t with
 | none=>simp [hu] at hf
 | some d=>
   cases d with
   | struct fs=>
     simp only [hu] at hf
     cases hfi:fs[i]? with
     | none=>simp [hfi] at hf
     | some f=>
       simp only [hfi] at hf
       cases hin:P.info? f.type with
       | none=>simp [hin] at hf
       | some j=>
         simp only [hin] at hf
         cases hb:Nat.beq j.size 0 with
         | true=>simp [hb] at hf
         | false=>
           simp only [hb,cond_false,Option.some.injEq] at hf
           have hne:¬j.size=0:=fun e=>by rw [e] at hb;cases hb
           subst hf
           simp [Instr.fieldAt,run_underlying hu,hfi,Instr.sureAddr,fieldPlace,sizeOf,typeInfo,hin,hne,Addr.add_mid]
   | _=>simp [hu] at hf
theorem zbT {b o:Nat} {p:α×β} (h:At w b o p):At w b o p.1:=by
 obtain ⟨F,cs,⟨F1,F2,c1,c2,rfl,rfl,h1,h2⟩,hr⟩:=h
 exact ⟨F1,c1,h1,(zaB hr).1⟩
theorem zaP {b o:Nat} {p:α×β} (h:At w b o p):At w b (o+Rep.size α) p.2:=by
 obtain ⟨F,cs,⟨F1,F2,c1,c2,rfl,rfl,h1,h2⟩,hr⟩:=h
 have:=(zaB hr).2
 rw [Rep.len h1] at this
 exact ⟨F2,c2,h2,this⟩
theorem zlY {a:Option Addr} {cap:Nat} {l:List α} (h:Is w (.slice a l.length cap) l) (k:Nat) (hk:k≤l.length) (s:Nat) (hs:s=Rep.size α) :
   Is w (.slice (if cap=k then a else a.map (·.add (k*s))) (l.length-k) (cap-k)) (l.drop k):=by
 subst hs
 obtain ⟨F,cs,⟨a',cap',Fi,xs,rfl,h1,h2,hc,h4⟩,hv⟩:=h
 simp only [mkv,Rep.agg,cond_false,List.headD_cons,Value.slice.injEq] at hv
 obtain ⟨rfl,_,rfl⟩:=hv
 have e:l=l.take k++l.drop k:=by simp
 have hlen:(l.drop k).length=l.length-k:=by simp
 rw [e] at hc
 obtain ⟨F1,F2,x1,x2,rfl,rfl,c1,c2⟩:=Cells.split hc
 have hx1:x1.length=k*Rep.size α:=by rw [Cells.len c1,List.length_take];congr 1;omega
 by_cases hd:l.drop k=[]
 · refine ⟨[],_,⟨if cap=k then a else a.map (·.add (k*Rep.size α)),cap-k,F2,x2,rfl,by rw [hlen];omega,by omega,c2,.inl ⟨hd,rfl⟩⟩,?_⟩
   rw [←hlen];rfl
 have hlt:k<l.length:=by
   rcases Nat.lt_or_ge k l.length with h' | h'
   · exact h'
   exact absurd (List.drop_eq_nil_iff.2 h') hd
 rcases h4 with ⟨rfl,_⟩ | ⟨b,o,rfl,rfl,hr,hb⟩
 · simp at hlt
 have hr2:=(zaB hr).2
 rw [hx1] at hr2
 refine ⟨_,_,⟨_,cap-k,F2,x2,rfl,by rw [hlen];omega,by omega,c2,.inr ⟨b,o+k*Rep.size α,rfl,rfl,hr2,hb⟩⟩,?_⟩
 rw [if_neg (by omega),←hlen]
 simp only [Option.map_some,Addr.add_mid]
 rfl
theorem zf8 {t e:TypeId} {by_:Nat} {v:Value} {l:List α} {i:Int} (ht:P.underlying t=some (.slice e)) (he:tyI P e=some (Rep.size α,by_,Rep.agg α)) (h:Is w0 v l) (h0:0≤i) (h1:i.toNat≤l.length)
   (k:∀ v',Is w0 v' (l.drop i.toNat)→K v'):RD P (Instr.sliceAt t v (some (.int .i64 i)) none none) w K:=by
 obtain ⟨a,cap,Fi,xs,rfl,hc1,_,_⟩:=zcq h
 refine zaV (v:=.slice (if cap=i.toNat then a else a.map (·.add (i.toNat*Rep.size α))) (l.length-i.toNat) (cap-i.toNat)) (fun w' _=>?_) (k _ (zlY h i.toNat h1 _ rfl))
 have hb:(Instr.sliceBounds true l.length cap (some (.int .i64 i)) none none).run P w'=.ok (i.toNat,l.length,cap) w':=by
   have:i≤(l.length:Int):=by omega
   simp [Instr.sliceBounds,Instr.sliceBound,asIntOf,h0,this]
 simp [Instr.sliceAt,Instr.slice,run_underlying ht,hb,zaD he]
end data
end
end Go.Sh
namespace Go.Sh
open Go.RowKit (Below)
open Rep (rep)
structure Chg (F:List Nat) (w w':World):Prop where
 os:w'.os=w.os
 tape:w'.tape=w.tape
 output:w'.output=w.output
 size:w.heap.size≤w'.heap.size
 block:∀ b,b<w.heap.size→b∉F→w'.heap[b]?=w.heap[b]?
theorem Chg.refl (F:List Nat) (w:World):Chg F w w:=⟨rfl,rfl,rfl,Nat.le_refl _,fun _ _ _=>rfl⟩
theorem Chg.trans {F:List Nat} {a b c:World} (h:Chg F a b) (k:Chg F b c):Chg F a c:=
 ⟨k.os.trans h.os,k.tape.trans h.tape,k.output.trans h.output,Nat.le_trans h.size k.size,fun i hi hF=>(k.block i (Nat.lt_of_lt_of_le hi h.size) hF).trans (h.block i hi hF)⟩
theorem Chg.mono {F G:List Nat} {a b:World} (h:Chg F a b) (hs:∀ x∈F,x∈G):Chg G a b:=
 ⟨h.os,h.tape,h.output,h.size,fun i hi hF=>h.block i hi fun e=>hF (hs i e)⟩
theorem Ext.chg {a b:World} (F:List Nat) (h:Ext a b):Chg F a b:=⟨h.os,h.tape,h.output,h.size,fun i hi _=>h.block i hi⟩
theorem Chg.ext {a b:World} (h:Chg [] a b):Ext a b:=⟨h.os,h.tape,h.output,h.size,fun i hi=>h.block i hi (by simp)⟩
theorem Ext.chg_trans {F:List Nat} {a b c:World} (h:Ext a b) (k:Chg F b c) (hF:∀ x∈F,a.heap.size≤x):Ext a c:=
 ⟨k.os.trans h.os,k.tape.trans h.tape,k.output.trans h.output,Nat.le_trans h.size k.size,
   fun i hi=>(k.block i (Nat.lt_of_lt_of_le hi h.size) fun e=>by have:=hF i e;omega).trans (h.block i hi)⟩
theorem zaj (w:World):Ext w (World.drew1 w):=⟨rfl,rfl,rfl,Nat.le_refl _,fun _ _=>rfl⟩
theorem zaN (w:World) (o:Obj):Ext w (w.alloc o):=⟨rfl,rfl,rfl,by simp,fun k hk=>Below.heap_alloc w o k hk⟩
theorem zkM {w w':World} {row:Option Nat} (h:w.grownBy w' row):Chg row.toList w w':=
 ⟨h.os,h.tape,h.output,h.size,fun b hb hF=>h.block b hb fun e=>hF (by simp [←e])⟩
section
variable {P:Program} {w w0:World} {α β:Type} [Rep α] [Rep β]
def zbB (P:Program) (e:TypeId):Bool:=match P.info? e with | some i=>i.zero.isSome | none=>false
theorem zcV (w:World) (g:Nat) (cs:Array Value):Chg [g] w (w.setRow g cs):=
 ⟨rfl,rfl,rfl,by simp,fun b _ hF=>setRow_other w g b _ (by simpa using hF)⟩
theorem zdy {cs:List Value} {F:List Nat} {x:α} (h:rep F w cs x):(mkv α cs).cells.toList=cs:=by
 unfold mkv
 cases ha:Rep.agg α with
 | true=>simp [Value.cells]
 | false=>
   have hl:=Rep.len h
   rw [Rep.sz ha] at hl
   obtain ⟨c,rfl⟩:=List.length_eq_one_iff.1 hl
   have h1:=Rep.one h c (by simp)
   cases c<;>first | rfl | (simp [Value.oneCell'] at h1)
theorem zdb {t by_ g o:Nat} {cur:Array Value} {e:TypeId} {F:List Nat} {cs:List Value} {x:α} (ht:tyI P t=some (Rep.size α,by_,Rep.agg α)) (hr:rep F w cs x)
   (hg:w.heap[g]?=some (.cells cur e (0,0))) (hfit:o+Rep.size α≤cur.size) :
   (Instr.storeAt t (.pointer (some ⟨g,o,none⟩)) (mkv α cs)).run P w=.ok () (w.setRow g (cur.toList.take o++cs++cur.toList.drop (o+cs.length)).toArray):=by
 obtain ⟨i,d,hi,hd,hs,_⟩:=zcv ht
 have hc:=zdy hr
 have hl:=Rep.len hr
 have hsz:(mkv α cs).cells.size=Rep.size α:=by rw [←Array.length_toList,hc,hl]
 have:=run_storeCells_at (P:=P) g o e cs 0 cur w hg (by rw [hl];simpa using hfit) (Rep.one hr)
 simp only [Nat.add_zero] at this
 simp [Instr.storeAt,Instr.sureAddr,storeVar,hsz,zaD ht,hc,this]
theorem zhY {t e:TypeId} {s by_ n cap g k:Nat} {ag:Bool} {K:Value→Prop} (ht:P.underlying t=some (.slice e)) (he:tyI P e=some (s,by_,ag)) (hk:k<n) (kk:K (.pointer (some ⟨g,k*s,none⟩))) :
   RD P (Instr.indexAt t (.slice (some ⟨g,0,none⟩) n cap) (.int .i64 (k:Int))) w K:=
 zaV (fun w' _=>by rw [zbg ht he (by omega) (by omega)];simp) kk
theorem zcG {t:TypeId} {v:Value} {x:α} {K:Value→World→Prop} (h:Is w0 v x) (hx:Ext w0 w) (k:∀ w',Ext w w'→At w' w.heap.size 0 x→K (.pointer (some ⟨w.heap.size,0,none⟩)) w') :
   OP P (Instr.box t v) w K:=by
 obtain ⟨F,cs,hr,rfl⟩:=h
 have hc:=zdy hr
 refine ⟨_,w.alloc (.cells (mkv α cs).cells t),by simp [Instr.box,newVar,newRow],k _ (zaN w _) ⟨F,cs,zbV hr (hx.trans (zaN w _)),?_⟩⟩
 intro j u hu
 simp only [World.cell?,heap_alloc_new w _]
 rw [←hc] at hu
 simpa using hu
def Blk (g e:Nat) (w:World) (cs:List Value):Prop:=w.heap[g]?=some (.cells cs.toArray e (0,0))
theorem Blk.lt {g e:Nat} {cs:List Value} (h:Blk g e w cs):g<w.heap.size:=(Array.getElem?_eq_some_iff.1 h).1
theorem Blk.ext {g e:Nat} {w':World} {cs:List Value} (h:Blk g e w cs) (hx:Ext w w'):Blk g e w' cs:=by
 unfold Blk;rw [hx.heap h.lt];exact h
theorem Blk.keep {g e:Nat} {w':World} {cs:List Value} (h:Blk g e w cs) (hk:w'.heap[g]?=w.heap[g]?):Blk g e w' cs:=by
 unfold Blk;rw [hk];exact h
theorem Blk.chg {g e:Nat} {F:List Nat} {w':World} {cs:List Value} (h:Blk g e w cs) (hc:Chg F w w') (hg:g∉F):Blk g e w' cs:=h.keep (hc.block g h.lt hg)
theorem Blk.range {g e:Nat} {cs:List Value} (h:Blk g e w cs):w.rangeAt g 0 cs:=by
 intro j v hv
 have h':w.heap[g]?=some (.cells cs.toArray e (0,0)):=h
 simpa [World.cell?,h'] using hv
theorem Blk.at {g e:Nat} {F:List Nat} {cs:List Value} {x:α} (h:Blk g e w cs) (hr:rep F w cs x):At w g 0 x:=⟨F,cs,hr,h.range⟩
def zb9 (P:Program) (e:TypeId):Option (List Value):=match P.info? e with | some i=>i.zero.map (·.cells.toList) | none=>none
theorem zaF {e:TypeId} {zs:List Value} {K:Value→World→Prop} (hz:zb9 P e=some zs) (k:∀ w',Ext w w'→Blk w.heap.size e w' zs→K (.pointer (some ⟨w.heap.size,0,none⟩)) w') :
   OP P (Instr.alloc e true (.tuple #[])) w K:=by
 unfold zb9 at hz
 cases hi:P.info? e with
 | none=>simp [hi] at hz
 | some i=>
   simp only [hi] at hz
   obtain ⟨z,hz',rfl⟩:=Option.map_eq_some_iff.1 hz
   exact ⟨_,w.alloc (.cells z.cells e),by simp [Instr.alloc,zeroValue,typeInfo,hi,hz',newVar,newRow],k _ (zaN w _) (by unfold Blk;rw [heap_alloc_new w _])⟩
def Var (P:Program) (t:TypeId) (w:World) (g:Nat) (v:Value):Prop:=∃ e cs by_,Blk g e w cs∧v=.agg cs.toArray∧tyI P t=some (cs.length,by_,true)
theorem Var.lt {t g:Nat} {v:Value} (h:Var P t w g v):g<w.heap.size:=by obtain ⟨e,cs,_,hB,_⟩:=h;exact hB.lt
theorem Var.ext {t g:Nat} {v:Value} {w':World} (h:Var P t w g v) (hx:Ext w w'):Var P t w' g v:=by
 obtain ⟨e,cs,b,hB,r⟩:=h;exact ⟨e,cs,b,hB.ext hx,r⟩
theorem Var.keep {t g:Nat} {v:Value} {w':World} (h:Var P t w g v) (hk:w'.heap[g]?=w.heap[g]?):Var P t w' g v:=by
 obtain ⟨e,cs,b,hB,r⟩:=h;exact ⟨e,cs,b,hB.keep hk,r⟩
theorem zan {t g:Nat} {v:Value} {K:Value→Prop} (h:Var P t w0 g v) (hx:Ext w0 w) (k:K v):RD P (Instr.loadAt t (.pointer (some ⟨g,0,none⟩))) w K:=by
 obtain ⟨e,cs,b,hB,rfl,ht⟩:=h
 obtain ⟨i,d,hi,hd,hs,_,hg⟩:=zcv ht
 exact zaV (fun w' hx'=>run_loadAt_mid w' g 0 t cs d ((hB.ext hx).ext hx').range hd hg (by simp [hi,hs])) k
theorem zal {t by_:Nat} {v:Value} {x:α} {K:Value→World→Prop} (ht:tyI P t=some (Rep.size α,by_,true)) (ha:Rep.agg α=true) (h:Is w0 v x) (hx:Ext w0 w)
   (k:∀ w',Ext w w'→At w' w.heap.size 0 x→Var P t w' w.heap.size v→K (.pointer (some ⟨w.heap.size,0,none⟩)) w'):OP P (Instr.box t v) w K:=by
 obtain ⟨F,cs,hr,rfl⟩:=h
 have hc:=zdy hr
 have hB:Blk w.heap.size t (w.alloc (.cells (mkv α cs).cells t)) cs:=by
   unfold Blk
   rw [heap_alloc_new w _]
   congr 2
   apply Array.ext'
   simp [hc]
 refine ⟨_,w.alloc (.cells (mkv α cs).cells t),by simp [Instr.box,newVar,newRow],k _ (zaN w _) (hB.at (zbV hr (hx.trans (zaN w _)))) ⟨t,cs,by_,hB,by simp [mkv,ha],by rw [Rep.len hr];exact ht⟩⟩
theorem zeY {e by_:Nat} {zs:List Value} {v:Value} {x:α} {K:Value→World→Prop} (hz:zb9 P e=some zs) (hl:zs.length=Rep.size α) (ht:tyI P e=some (Rep.size α,by_,true)) (ha:Rep.agg α=true) (h:Is w0 v x) (hx:Ext w0 w)
   (k:∀ w',Ext w w'→At w' w.heap.size 0 x→Var P e w' w.heap.size v→K (.pointer (some ⟨w.heap.size,0,none⟩)) w') :
   OP P (Instr.alloc e true (.tuple #[])) w fun p w1=>OPU P (Instr.storeAt e p v) w1 (K p):=by
 obtain ⟨F,cs,hr,rfl⟩:=h
 have hlr:=Rep.len hr
 unfold zb9 at hz
 cases hi:P.info? e with
 | none=>simp [hi] at hz
 | some i=>
   simp only [hi] at hz
   obtain ⟨z,hz',rfl⟩:=Option.map_eq_some_iff.1 hz
   refine ⟨.pointer (some ⟨w.heap.size,0,none⟩),w.alloc (.cells z.cells e),by simp [Instr.alloc,zeroValue,typeInfo,hi,hz',newVar,newRow],?_⟩
   have hB:(w.alloc (.cells z.cells e)).heap[w.heap.size]?=some (.cells z.cells e (0,0)):=heap_alloc_new w _
   have hsz:z.cells.size=Rep.size α:=by simpa using hl
   have hr1:=zbV hr (hx.trans (zaN w (.cells z.cells e)))
   have hst:=zdb (P:=P) (t:=e) (by_:=by_) (o:=0) (by rw [ha];exact ht) hr1 hB (by simp [hsz])
   have hsr:=setRow_heap (w.alloc (.cells z.cells e)) w.heap.size z.cells (z.cells.toList.take 0++cs++z.cells.toList.drop (0+cs.length)).toArray e _ hB
   have hcs:z.cells.toList.take 0++cs++z.cells.toList.drop (0+cs.length)=cs:=by
     rw [List.take_zero,List.nil_append,Nat.zero_add,List.drop_of_length_le (by simp [hsz,hlr]),List.append_nil]
   rw [hcs] at hst hsr
   have hex:Ext w ((w.alloc (.cells z.cells e)).setRow w.heap.size cs.toArray):=(zaN w _).chg_trans (zcV _ _ _) (by simp)
   exact ⟨_,hst,k _ hex (Blk.at (e:=e) hsr (zbV hr (hx.trans hex))) ⟨e,cs,by_,hsr,by simp [mkv,ha],by rw [hlr];exact ht⟩⟩
theorem zrW {e by_:Nat} {zs:List Value} {v:Value} {x:α} {K:Value→World→Prop} (hz:zb9 P e=some zs) (hl:zs.length=Rep.size α) (ht:tyI P e=some (Rep.size α,by_,true)) (ha:Rep.agg α=true) (h:Is w0 v x) (hx:Ext w0 w)
   (k:∀ w',Ext w w'→At w' w.heap.size 0 x→Var P e w' w.heap.size v→K (.pointer (some ⟨w.heap.size,0,none⟩)) w') :
   OP P (Instr.alloc e true (.tuple #[])) w fun p w1=>Ext w w1∧OPU P (Instr.storeAt e p v) w1 (K p):=by
 obtain ⟨F,cs,hr,rfl⟩:=h
 have hlr:=Rep.len hr
 unfold zb9 at hz
 cases hi:P.info? e with
 | none=>simp [hi] at hz
 | some i=>
   simp only [hi] at hz
   obtain ⟨z,hz',rfl⟩:=Option.map_eq_some_iff.1 hz
   refine ⟨.pointer (some ⟨w.heap.size,0,none⟩),w.alloc (.cells z.cells e),by simp [Instr.alloc,zeroValue,typeInfo,hi,hz',newVar,newRow],zaN w _,?_⟩
   have hB:(w.alloc (.cells z.cells e)).heap[w.heap.size]?=some (.cells z.cells e (0,0)):=heap_alloc_new w _
   have hsz:z.cells.size=Rep.size α:=by simpa using hl
   have hr1:=zbV hr (hx.trans (zaN w (.cells z.cells e)))
   have hst:=zdb (P:=P) (t:=e) (by_:=by_) (o:=0) (by rw [ha];exact ht) hr1 hB (by simp [hsz])
   have hsr:=setRow_heap (w.alloc (.cells z.cells e)) w.heap.size z.cells (z.cells.toList.take 0++cs++z.cells.toList.drop (0+cs.length)).toArray e _ hB
   have hcs:z.cells.toList.take 0++cs++z.cells.toList.drop (0+cs.length)=cs:=by
     rw [List.take_zero,List.nil_append,Nat.zero_add,List.drop_of_length_le (by simp [hsz,hlr]),List.append_nil]
   rw [hcs] at hst hsr
   have hex:Ext w ((w.alloc (.cells z.cells e)).setRow w.heap.size cs.toArray):=(zaN w _).chg_trans (zcV _ _ _) (by simp)
   exact ⟨_,hst,k _ hex (Blk.at (e:=e) hsr (zbV hr (hx.trans hex))) ⟨e,cs,by_,hsr,by simp [mkv,ha],by rw [hlr];exact ht⟩⟩
theorem zoO {t by_ g o e:Nat} {cs us:List Value} {F:List Nat} {x:α} {v:Value} {K:World→Prop} (ht:tyI P t=some (Rep.size α,by_,Rep.agg α)) (hB:Blk g e w cs) (hr:rep F w us x) (hv:v=mkv α us) (ho:o+Rep.size α≤cs.length)
   (k:∀ w',Chg [g] w w'→Blk g e w' (cs.take o++us++cs.drop (o+us.length))→K w'):OPU P (Instr.storeAt t (.pointer (some ⟨g,o,none⟩)) v) w K:=by
 subst hv
 have hB':w.heap[g]?=some (.cells cs.toArray e (0,0)):=hB
 have:=zdb (P:=P) ht hr hB' (by simpa using ho)
 exact ⟨_,this,k _ (zcV w g _) (setRow_heap w g _ _ e _ hB')⟩
class Flat (α:Type) [Rep α]:Prop where
 flat:∀ {F w cs} {x:α},rep F w cs x→F=[]
instance:Flat Int:=⟨fun h=>h.1⟩
instance:Flat Bool:=⟨fun h=>h.1⟩
instance:Flat ByteArray:=⟨fun h=>h.1⟩
instance [Flat α] [Flat β]:Flat (α×β):=⟨by
 rintro _ _ _ _ ⟨F1,F2,c1,c2,rfl,rfl,h1,h2⟩
 rw [Flat.flat h1,Flat.flat h2];rfl⟩
theorem Cells.flat [Flat α] {xs:List Value}:∀ {l:List α} {F:List Nat} {xs:List Value},Cells F w xs l→F=[]
 | [],_,_,⟨h,_⟩=>h
 | _ :: _,_,_,⟨F1,F2,c1,c2,hF,_,h1,h2⟩=>by rw [hF,Flat.flat h1,Cells.flat (xs:=xs) h2];rfl
theorem Cells.set {F:List Nat} {xs:List Value} {l:List α} (h:Cells F w xs l) (k:Nat) (hk:k<l.length) {G:List Nat} {cs:List Value} {x:α} (hr:rep G w cs x) [Flat α] :
   Cells [] w (xs.take (k*Rep.size α)++cs++xs.drop (k*Rep.size α+Rep.size α)) (l.set k x):=by
 have hF:=Cells.flat (xs:=xs) h
 have hG:=Flat.flat hr
 subst hF hG
 have e:l=l.take k++(l[k] :: l.drop (k+1)):=by simp
 rw [e] at h
 obtain ⟨F1,F2,x1,x2,hFF,rfl,h1,h2⟩:=Cells.split h
 obtain ⟨rfl,rfl⟩:=List.append_eq_nil_iff.1 hFF.symm
 obtain ⟨G1,G2,c1,c2,hGG,rfl,k1,k2⟩:=h2
 obtain ⟨rfl,rfl⟩:=List.append_eq_nil_iff.1 hGG.symm
 have hl:x1.length=k*Rep.size α:=by rw [Cells.len h1,List.length_take];congr 1;omega
 have hc:=Rep.len k1
 have e1:(x1++(c1++c2)).take (k*Rep.size α)=x1:=by rw [←hl];exact List.take_left
 have e2:(x1++(c1++c2)).drop (k*Rep.size α+Rep.size α)=c2:=by
   rw [←hl,←hc,←List.append_assoc,←List.length_append];exact List.drop_left
 rw [e1,e2]
 have:l.set k x=l.take k++(x :: l.drop (k+1)):=by rw [List.set_eq_take_append_cons_drop];simp [hk]
 rw [this,List.append_assoc]
 exact Cells.append (F:=[]) (G:=[]) h1 ⟨[],[],cs,c2,rfl,rfl,hr,k2⟩
theorem zqv {t e:TypeId} {by_:Nat} [Flat α] {F:List Nat} {v u:Value} {l:List α} {x:α} {k:Nat} {K:World→Prop} (ht:P.underlying t=some (.slice e)) (he:tyI P e=some (Rep.size α,by_,Rep.agg α))
   (hm:Mine F w v l) (hk:k<l.length) (hx:OwnF [] w u x) (kk:∀ w',Chg F w w'→Mine F w' v (l.set k x)→K w') :
   RD P (Instr.indexAt t v (.int .i64 (k:Int))) w fun p=>OPU P (Instr.storeAt e p u) w K:=by
 obtain ⟨⟨cs,⟨a,cap,Fi,xs,rfl,h1,h2,hc,h4⟩,rfl⟩,hn,hw⟩:=hm
 obtain ⟨us,hr,rfl⟩:=hx
 rcases h4 with ⟨rfl,_⟩ | ⟨b,o,rfl,rfl,hra,hb⟩
 · simp at hk
 obtain ⟨cur,e',hcur⟩:=hw b (by simp)
 have hFi:=Cells.flat (xs:=xs) hc
 subst hFi
 have hlx:=Cells.len hc
 have hul:=Rep.len hr
 have hks:(k+1)*Rep.size α≤l.length*Rep.size α:=Nat.mul_le_mul_right _ (by omega)
 rw [Nat.add_mul,Nat.one_mul] at hks
 have hpos:=Rep.pos (α:=α)
 have hcell:∀ j,j<xs.length→cur[o+j]?=xs[j]?:=by
   intro j hj
   have:=hra j xs[j] (by simp [hj])
   simpa [World.cell?,hcur,hj] using this
 have hfit:o+xs.length≤cur.size:=by
   have hj:xs.length-1<xs.length:=by omega
   have:=hcell (xs.length-1) hj
   rw [List.getElem?_eq_getElem hj] at this
   have:=(Array.getElem?_eq_some_iff.1 this).1
   omega
 refine zaV (v:=.pointer (some ⟨b,o+k*Rep.size α,none⟩)) (fun w' _=>?_) ⟨_,zdb (e:=e') (cur:=cur) he hr hcur (by omega),kk _ ((zcV w b _).mono (by simp)) ?_⟩
 · show (Instr.indexAt t (.slice (some ⟨b,o,none⟩) l.length cap) (.int .i64 (k:Int))).run P w'=_
   rw [zbg ht he (by omega) (by omega)];simp
 refine ⟨⟨_,⟨some ⟨b,o,none⟩,cap,[],xs.take (k*Rep.size α)++us++xs.drop (k*Rep.size α+Rep.size α),by simp,by simpa using h1,h2,?_,.inr ⟨b,o,rfl,rfl,?_,?_⟩⟩,rfl⟩,hn,?_⟩
 · have:=Cells.set hc k hk hr
   exact Cells.keep this (by simp)
 · intro j u hu
   have hlt:j<(xs.take (k*Rep.size α)++us++xs.drop (k*Rep.size α+Rep.size α)).length:=(List.getElem?_eq_some_iff.1 hu).1
   have hlen:(xs.take (k*Rep.size α)++us++xs.drop (k*Rep.size α+Rep.size α)).length=xs.length:=by
     simp only [List.length_append,List.length_take,List.length_drop,hul];omega
   rw [hlen] at hlt
   simp only [World.cell?,setRow_heap w b cur _ e' _ hcur]
   simp only [Option.isSome_none,Bool.false_eq_true,if_false,List.getElem?_toArray]
   rw [←hu]
   by_cases hj1:j<k*Rep.size α
   · rw [List.append_assoc,List.getElem?_append_left (by simp only [List.length_take,Array.length_toList];omega),List.getElem?_take,if_pos (by omega),Array.getElem?_toList,hcell j hlt,
       List.append_assoc,List.getElem?_append_left (by simp only [List.length_take];omega),List.getElem?_take,if_pos hj1]
   by_cases hj2:j<k*Rep.size α+Rep.size α
   · rw [List.append_assoc,List.getElem?_append_right (by simp only [List.length_take,Array.length_toList];omega),List.getElem?_append_left (by simp only [List.length_take,Array.length_toList];omega),
       List.append_assoc,List.getElem?_append_right (by simp only [List.length_take];omega),List.getElem?_append_left (by simp only [List.length_take];omega)]
     congr 1
     simp only [List.length_take,Array.length_toList];omega
   rw [List.getElem?_append_right (by simp only [List.length_append,List.length_take,Array.length_toList];omega),List.getElem?_append_right (l₁:=xs.take _++us) (by simp only [List.length_append,List.length_take];omega),
     List.getElem?_drop,List.getElem?_drop,Array.getElem?_toList]
   have e1:o+k*Rep.size α+us.length+(o+j-(List.take (o+k*Rep.size α) cur.toList++us).length)=o+j:=by
     simp only [List.length_append,List.length_take,Array.length_toList];omega
   have e2:k*Rep.size α+Rep.size α+(j-(List.take (k*Rep.size α) xs++us).length)=j:=by
     simp only [List.length_append,List.length_take];omega
   rw [e1,e2,hcell j hlt]
 · simpa [World.setRow] using hb
 intro c hc
 simp only [List.mem_cons,List.not_mem_nil,or_false] at hc
 subst hc
 exact ⟨_,e',setRow_heap w c cur _ e' _ hcur⟩
def RowF (F:List Nat) (e:TypeId) (w:World) (v:Value) (l:List α):Prop:=
 ∃ xs Fi,w.ownsRow 0 e (Rep.size α) v l.length xs∧Cells Fi w xs l∧F=v.ownBlock.toList++Fi∧Wr Fi w
def Row (lo:Nat) (e:TypeId) (w:World) (v:Value) (l:List α):Prop:=∃ F,RowF F e w v l∧F.Nodup∧∀ b∈F,lo≤b
theorem RowF.lt {F:List Nat} {e:TypeId} {v:Value} {l:List α} (h:RowF F e w v l):∀ b∈F,b<w.heap.size:=by
 obtain ⟨xs,Fi,ho,hc,rfl,hw⟩:=h
 intro b hb
 rcases List.mem_append.1 hb with hb | hb
 · exact (ho.lt b (by simpa [Option.mem_toList] using hb)).2
 exact Cells.lt hc b hb
theorem RowF.keep {F:List Nat} {e:TypeId} {v:Value} {w':World} {l:List α} (h:RowF F e w v l) (hk:∀ b∈F,w'.heap[b]?=w.heap[b]?):RowF F e w' v l:=by
 obtain ⟨xs,Fi,ho,hc,rfl,hw⟩:=h
 refine ⟨xs,Fi,⟨ho.1,?_⟩,Cells.keep hc fun b hb=>hk b (by simp [hb]),rfl,hw.keep fun b hb=>hk b (by simp [hb])⟩
 rcases ho.2 with hn | ⟨g,cap,cur,rfl,hb,hg,rest⟩
 · exact .inl hn
 exact .inr ⟨g,cap,cur,rfl,hb,by rw [hk g (by simp [Value.ownBlock])];exact hg,rest⟩
theorem RowF.ext {F:List Nat} {e:TypeId} {v:Value} {w':World} {l:List α} (h:RowF F e w v l) (hx:Ext w w'):RowF F e w' v l:=h.keep fun b hb=>hx.heap (h.lt b hb)
theorem RowF.own {F:List Nat} {e:TypeId} {v:Value} {l:List α} (h:RowF F e w v l):OwnF F w v l:=by
 have hlt:=h.lt
 obtain ⟨xs,Fi,ho,hc,rfl,hw⟩:=h
 rcases ho.2 with ⟨rfl,hn⟩ | ⟨g,cap,cur,rfl,hb,hg,h1,h2,h3,h4⟩
 · have:l=[]:=List.eq_nil_of_length_eq_zero hn
   subst this
   obtain ⟨rfl,rfl⟩:=hc
   exact ⟨_,⟨none,0,[],[],rfl,Nat.le_refl _,Nat.zero_le _,⟨rfl,rfl⟩,.inl ⟨rfl,rfl⟩⟩,rfl⟩
 refine ⟨_,⟨_,cap,Fi,xs,rfl,h1,h2,hc,.inr ⟨g,0,rfl,rfl,?_,hlt g (by simp [Value.ownBlock])⟩⟩,rfl⟩
 intro j v hv
 have:=ho.cells (g:=g) rfl j v hv
 rwa [Addr.add_mid] at this
theorem RowF.wr {F:List Nat} {e:TypeId} {v:Value} {l:List α} (h:RowF F e w v l):Wr F w:=by
 obtain ⟨xs,Fi,ho,hc,rfl,hw⟩:=h
 refine Wr.append (fun b hb=>?_) hw
 rcases ho.2 with ⟨rfl,hn⟩ | ⟨g,cap,cur,rfl,_,hg,_⟩
 · simp [Value.ownBlock] at hb
 simp [Value.ownBlock] at hb;subst hb;exact ⟨cur,e,hg⟩
theorem Row.own {lo:Nat} {e:TypeId} {v:Value} {l:List α} (h:Row lo e w v l):Own lo w v l:=by
 obtain ⟨F,h,hn,hb⟩:=h
 exact ⟨F,⟨h.own,hn,h.wr⟩,hb⟩
theorem Row.is {lo:Nat} {e:TypeId} {v:Value} {l:List α} (h:Row lo e w v l):Is w v l:=h.own.is
theorem zhZ {t e:TypeId} {by_:Nat} {K:Value→World→Prop} (ht:P.underlying t=some (.slice e)) (he:tyI P e=some (Rep.size α,by_,Rep.agg α))
   (k:∀ a w',Ext w w'→Row (α:=α) w.heap.size e w' (.slice (some a) 0 0) []→K (.slice (some a) 0 0) w'):OP P (Instr.buildSlice t 0 #[]) w K:=by
 refine ⟨.slice (some ⟨w.heap.size,0,none⟩) 0 0,w.alloc (.cells #[] e),?_,k _ _ (zaN w _) ⟨[w.heap.size],⟨[],[],?_,⟨rfl,rfl⟩,rfl,Wr.nil _⟩,by simp,by simp⟩⟩
 · have h0:Array.range 0=#[]:=by apply Array.ext';simp
   simp [Instr.buildSlice,run_underlying ht,zaD he,Instr.fill,newRow,h0]
 exact World.ownsRow_made w #[] 0 (Nat.zero_le _) (Nat.zero_le _) (by simp)
theorem zh0 {t ty e:TypeId} {s by_:Nat} {g:Bool} (ht:P.underlying t=some (.slice e)) (he:tyI P e=some (s,by_,g)) {v:Value} {n:Nat} {xs:List Value} (ho:w.ownsRow 0 e s v n xs) (a:Option Addr) (c:Nat) :
   (Builtin.append_ #[t,t] ty #[v,.slice a 0 c]).run P w=.ok v w:=by
 have hf:(Builtin.firstCells s 0 (.slice a 0 c)).run P w=.ok #[] w:=by
   cases a with
   | none=>rfl
   | some a=>simp [Builtin.firstCells,loadCells,loadCellsFrom]
 rcases ho.2 with ⟨rfl,rfl⟩ | ⟨g,cap,cur,rfl,_,_,hnc,_⟩
 · simp [Builtin.append_,run_underlying ht,zaD he,Builtin.lenOf,hf]
 simp [Builtin.append_,run_underlying ht,zaD he,Builtin.lenOf,hf,hnc,storeCells]
theorem zeZ {t ty e:TypeId} {by_:Nat} {K:Value→World→Prop} {v src:Value} {l m:List α} {F:List Nat} (ht:P.underlying t=some (.slice e)) (he:tyI P e=some (Rep.size α,by_,Rep.agg α)) (hz:(P.info? e).map (fun i=>(i.zero.map (·.cells.size)))=some (some (Rep.size α)))
   (hr:RowF F e w v l) (hn:F.Nodup) {a:Option Addr} {c:Nat} {xs:List Value} {G:List Nat} (hs:src=.slice a m.length c) (hc:Cells G w xs m) (ha:m=[]∨∃ b o,a=some ⟨b,o,none⟩∧w.rangeAt b o xs)
   (hG:Wr G w) (hd:(G++F).Nodup) (hm:l.length+m.length≤maxLen) (hb:(l.length+m.length)*by_≤140737488355328)
   (k:∀ v' w' F',Chg v.ownBlock.toList w w'→(∀ a,v=.slice a l.length l.length→Ext w w')→RowF F' e w' v' (l++m)→F'.Nodup→(∀ b∈F',b∈F∨b∈G∨w.heap.size≤b)→K v' w'):OP P (Builtin.append_ #[t,t] ty [v,src].toArray) w K:=by
 subst hs
 obtain ⟨xs0,Fi,ho,hc0,rfl,hwF⟩:=hr
 by_cases hm0:m=[]
 · subst hm0
   obtain ⟨rfl,rfl⟩:=hc
   refine ⟨v,w,zh0 ht he ho a c,k v w _ (Chg.refl _ _) (fun _ _=>Ext.refl w) (by simpa using ⟨xs0,Fi,ho,hc0,rfl,hwF⟩) hn (fun b hb=>.inl hb)⟩
 rcases ha with h | ⟨b,o,rfl,hra⟩
 · exact absurd h hm0
 obtain ⟨i,d,hi,hd',hs,hby,hg⟩:=zcv he
 simp only [hi,Option.map_some,Option.some.injEq] at hz
 obtain ⟨z,hz,hzs⟩:=Option.map_eq_some_iff.1 hz
 obtain ⟨v',w',hrun,hown',hgrow,hnil⟩:=run_append_own (P:=P) w 0 t ty e i z (Rep.size α) by_ ht hi hz hs hby hzs Rep.pos v l.length xs0 ho ⟨b,o,none⟩ m.length c xs (Cells.len hc)
   (fun j u hu=>by rw [Addr.add_mid];exact hra j u hu) (Cells.one hc) hm hb (Nat.zero_le _)
 have hchg:=zkM hgrow
 have kF:∀ b∈Fi,w'.heap[b]?=w.heap[b]?:=fun b hb=>hchg.block b (Cells.lt hc0 b hb) (fun e=>by
   rw [List.nodup_append] at hn;exact hn.2.2 b e b hb rfl)
 have kG:∀ b∈G,w'.heap[b]?=w.heap[b]?:=fun b hb=>hchg.block b (Cells.lt hc b hb) (fun e=>by
   rw [List.nodup_append] at hd;exact hd.2.2 b hb b (by simp only [List.mem_append];exact .inl e) rfl)
 have hvb:∀ q,v'.ownBlock=some q→v.ownBlock=some q∨w.heap.size≤q:=by
   intro q hq
   rcases Nat.lt_or_ge q w.heap.size with hlt | hge
   · left
     -- an old block that is now the row's: it was the row's
     by_cases hv0:v.ownBlock=some q
     · exact hv0
     exfalso
     rcases ho.2 with ⟨rfl,hl0⟩ | ⟨g,cap,cur,rfl,_,hgg,h1,h2,h3,h4⟩
     · -- grown out of nil: the block is new
       have hx0:xs0=[]:=List.eq_nil_of_length_eq_zero (by simpa [hl0] using ho.1)
       have hml:0<m.length:=List.length_pos_iff.2 hm0
       have hr2:=run_append_nil (P:=P) w t ty e i z ht hi hz ⟨b,o,none⟩ m.length c xs (by rw [hs];exact Cells.len hc) (fun j u hu=>by rw [Addr.add_mid];exact hra j u hu) hml (by rw [zam] at hm;omega) (by rw [hby];have:=hb;rw [Nat.add_mul] at this;omega)
       have hrun':(Builtin.append_ #[t,t] ty #[.slice none 0 0,.slice (some ⟨b,o,none⟩) m.length c]).run P w=.ok v' w':=hrun
       rw [hr2] at hrun'
       simp only [Result.ok.injEq] at hrun'
       rw [←hrun'.1] at hq
       simp [Value.ownBlock] at hq
       omega
     by_cases hroom:l.length+m.length≤cap
     · have hfit:l.length*i.size+xs.length≤cur.size:=by rw [Cells.len hc,h3,hs,←Nat.add_mul];exact Nat.mul_le_mul_right _ hroom
       have hr2:=run_append_room (P:=P) w t ty e i ht hi g l.length cap cur hgg ⟨b,o,none⟩ m.length c xs (by rw [hs];exact Cells.len hc) (fun j u hu=>by rw [Addr.add_mid];exact hra j u hu) (Cells.one hc) hroom hfit
       have hrun':(Builtin.append_ #[t,t] ty #[.slice (some ⟨g,0,none⟩) l.length cap,.slice (some ⟨b,o,none⟩) m.length c]).run P w=.ok v' w':=hrun
       rw [hr2] at hrun'
       simp only [Result.ok.injEq] at hrun'
       rw [←hrun'.1] at hq
       simp [Value.ownBlock] at hq hv0
       exact hv0 hq
     have hr2:=run_append_grow (P:=P) w t ty e i z ht hi hz ⟨g,0,none⟩ l.length cap xs0 (by rw [hs];exact ho.1) (ho.cells (g:=g) rfl) ⟨b,o,none⟩ m.length c xs (by rw [hs];exact Cells.len hc) (fun j u hu=>by rw [Addr.add_mid];exact hra j u hu) (by omega) (by rw [zam] at hm;omega) (growslice_fits (by omega) (by rw [hby];exact hb))
     have hrun':(Builtin.append_ #[t,t] ty #[.slice (some ⟨g,0,none⟩) l.length cap,.slice (some ⟨b,o,none⟩) m.length c]).run P w=.ok v' w':=hrun
     rw [hr2] at hrun'
     simp only [Result.ok.injEq] at hrun'
     rw [←hrun'.1] at hq
     simp [Value.ownBlock] at hq
     omega
   exact .inr hge
 have hfull:∀ a,v=.slice a l.length l.length→Ext w w':=by
   intro a hva
   have hml:0<m.length:=List.length_pos_iff.2 hm0
   rcases ho.2 with ⟨rfl,hl0⟩ | ⟨g,cap,cur,rfl,_,hgg,h1,h2,h3,h4⟩
   · have hr2:=run_append_nil (P:=P) w t ty e i z ht hi hz ⟨b,o,none⟩ m.length c xs (by rw [hs];exact Cells.len hc) (fun j u hu=>by rw [Addr.add_mid];exact hra j u hu) hml (by rw [zam] at hm;omega) (by rw [hby];have:=hb;rw [Nat.add_mul] at this;omega)
     have hrun':(Builtin.append_ #[t,t] ty #[.slice none 0 0,.slice (some ⟨b,o,none⟩) m.length c]).run P w=.ok v' w':=hrun
     rw [hr2] at hrun'
     simp only [Result.ok.injEq] at hrun'
     rw [←hrun'.2]
     exact (zaj w).trans (zaN w.drew _)
   simp only [Value.slice.injEq,true_and] at hva
   have hr2:=run_append_grow (P:=P) w t ty e i z ht hi hz ⟨g,0,none⟩ l.length cap xs0 (by rw [hs];exact ho.1) (ho.cells (g:=g) rfl) ⟨b,o,none⟩ m.length c xs (by rw [hs];exact Cells.len hc) (fun j u hu=>by rw [Addr.add_mid];exact hra j u hu) (by omega) (by rw [zam] at hm;omega) (growslice_fits (by omega) (by rw [hby];exact hb))
   have hrun':(Builtin.append_ #[t,t] ty #[.slice (some ⟨g,0,none⟩) l.length cap,.slice (some ⟨b,o,none⟩) m.length c]).run P w=.ok v' w':=hrun
   rw [hr2] at hrun'
   simp only [Result.ok.injEq] at hrun'
   rw [←hrun'.2]
   exact (zaj w).trans (zaN w.drew _)
 refine ⟨v',w',hrun,k v' w' (v'.ownBlock.toList++(Fi++G)) hchg hfull ⟨xs0++xs,Fi++G,by simpa using hown',Cells.append (Cells.keep hc0 kF) (Cells.keep hc kG),rfl,(hwF.keep kF).append (hG.keep kG)⟩ ?_ ?_⟩
 · have hltF:∀ b∈Fi,b<w.heap.size:=Cells.lt hc0
   have hltG:∀ b∈G,b<w.heap.size:=Cells.lt hc
   rw [List.nodup_append] at hd hn
   rw [List.nodup_append,List.nodup_append]
   refine ⟨by cases v'.ownBlock<;>simp,⟨hn.2.1,hd.1,fun x hx y hy e=>hd.2.2 y hy x (by simp [hx]) e.symm⟩,?_⟩
   intro x hx y hy e
   subst e
   rcases hvb x (by simpa [Option.mem_toList] using hx) with h | h
   · rcases List.mem_append.1 hy with hy | hy
     · exact hn.2.2 x (by simp [h]) x hy rfl
     exact hd.2.2 x hy x (by simp [h]) rfl
   rcases List.mem_append.1 hy with hy | hy
   · have:=hltF x hy;omega
   have:=hltG x hy;omega
 intro x hx
 rcases List.mem_append.1 hx with hx | hx
 · rcases hvb x (by simpa [Option.mem_toList] using hx) with h | h
   · exact .inl (by simp [h])
   exact .inr (.inr h)
 rcases List.mem_append.1 hx with hx | hx
 · exact .inl (by simp [hx])
 exact .inr (.inl hx)
end
end Go.Sh
namespace Go.Sh
open Go.RowKit (Below)
open Rep (rep)
def OAt {α:Type} [Rep α] (G:List Nat) (w:World) (b o:Nat) (x:α):Prop:=
 ∃ cs,rep G w cs x∧w.rangeAt b o cs∧G.Nodup∧Wr G w∧b∉G∧∃ c e,w.heap[b]?=some (.cells c e (0,0))
structure ChgAt (b o n:Nat) (G:List Nat) (w w':World):Prop where
 chg:Chg (b :: G) w w'
 cell:∀ c e,w.heap[b]?=some (.cells c e (0,0))→∃ c',w'.heap[b]?=some (.cells c' e (0,0))∧∀ j,(j<o∨o+n≤j)→c'[j]?=c[j]?
theorem ChgAt.mono {b o n o' n':Nat} {G G':List Nat} {w w':World} (h:ChgAt b o n G w w') (ho:o'≤o) (hn:o+n≤o'+n') (hG:∀ c∈G,c∈G'):ChgAt b o' n' G' w w':=
 ⟨h.chg.mono fun x hx=>by
   rcases List.mem_cons.1 hx with rfl | hx
   · simp
   · exact List.mem_cons_of_mem _ (hG x hx),fun c e hc=>by
   obtain ⟨c',h1,h2⟩:=h.cell c e hc
   exact ⟨c',h1,fun j hj=>h2 j (by omega)⟩⟩
section
variable {P:Program} {w w0:World} {α β:Type} [Rep α] [Rep β]
theorem ChgAt.range {b o n o':Nat} {G:List Nat} {w':World} {cs:List Value} (h:ChgAt b o n G w w') (hw:∃ c e,w.heap[b]?=some (.cells c e (0,0))) (hr:w.rangeAt b o' cs) (hd:o'+cs.length≤o∨o+n≤o'):w'.rangeAt b o' cs:=by
 obtain ⟨c,e,hc⟩:=hw
 obtain ⟨c',h1,h2⟩:=h.cell c e hc
 intro j v hv
 have hj:j<cs.length:=(List.getElem?_eq_some_iff.1 hv).1
 have:=hr j v hv
 simp only [World.cell?,hc,h1] at this ⊢
 simp only [Option.isSome_none,Bool.false_eq_true,if_false] at this ⊢
 rw [h2 (o'+j) (by omega)];exact this
theorem OAt.at {G:List Nat} {b o:Nat} {x:α} (h:OAt G w b o x):At w b o x:=by
 obtain ⟨cs,hr,ha,_⟩:=h;exact ⟨G,cs,hr,ha⟩
theorem OAt.lt {G:List Nat} {b o:Nat} {x:α} (h:OAt G w b o x):b<w.heap.size:=by
 obtain ⟨cs,_,_,_,_,_,c,e,hc⟩:=h;exact (Array.getElem?_eq_some_iff.1 hc).1
structure Lens (H:List Nat→World→α→Prop) (S:List Nat) (w:World) (b o:Nat) (G:List Nat) (y:β) (upd:β→α):Prop where
 here:OAt G w b o y
 sub:∀ c∈b :: G,c∈S
 back:∀ w' G' y',ChgAt b o (Rep.size β) G w w'→OAt G' w' b o y'→(∀ c∈G',c∈G∨c∉S)→∃ F',H F' w' (upd y')∧∀ c∈F',c∈S∨c∈G'
abbrev MH (v:Value):List Nat→World→α→Prop:=fun F w x=>Mine F w v x
abbrev VH (g:Nat):List Nat→World→α→Prop:=fun F w x=>OAt F w g 0 x
theorem Lens.var {F:List Nat} {g:Nat} {x:α} (h:OAt F w g 0 x):Lens (VH g) (g :: F) w g 0 F x (fun y=>y):=
 ⟨h,fun _ h=>h,fun w' G' y' _ hO _=>⟨G',hO,fun c hc=>.inr hc⟩⟩
theorem zkN {F1 F2 G G':List Nat} {b:Nat} (h:(b :: (F1++(G++F2))).Nodup) (hG:G'.Nodup) (hs:∀ c∈G',c∈G∨c∉b :: (F1++(G++F2))):(b :: (F1++(G'++F2))).Nodup:=by
 rw [List.nodup_cons] at h ⊢
 obtain ⟨hb,h⟩:=h
 rw [List.nodup_append] at h ⊢
 obtain ⟨h1,h2,h3⟩:=h
 rw [List.nodup_append] at h2 ⊢
 obtain ⟨h4,h5,h6⟩:=h2
 refine ⟨fun hm=>?_,h1,⟨hG,h5,fun a ha c hc e=>?_⟩,fun a ha c hc e=>?_⟩
 · rcases List.mem_append.1 hm with hm | hm
   · exact hb (by simp [hm])
   rcases List.mem_append.1 hm with hm | hm
   · rcases hs _ hm with h' | h'
     · exact hb (by simp [h'])
     exact h' (by simp)
   exact hb (by simp [hm])
 · subst e
   rcases hs _ ha with h' | h'
   · exact h6 a h' a hc rfl
   exact h' (by simp [hc])
 subst e
 rcases List.mem_append.1 hc with hc | hc
 · rcases hs _ hc with h' | h'
   · exact h3 a ha a (by simp [h']) rfl
   exact h' (by simp [ha])
 exact h3 a ha a (by simp [hc]) rfl
theorem zoP {F:List Nat} {v:Value} {l:List α} {k:Nat} (hm:Mine F w v l) (hk:k<l.length) :
   ∃ b a cap G,v=.slice (some ⟨b,a,none⟩) l.length cap∧Lens (MH v) F w b (a+k*Rep.size α) G l[k] (fun y=>l.set k y):=by
 obtain ⟨⟨cs,⟨a,cap,Fi,xs,rfl,h1,h2,hc,h4⟩,rfl⟩,hn,hw⟩:=hm
 rcases h4 with ⟨rfl,_⟩ | ⟨b,o,rfl,rfl,hra,hb⟩
 · simp at hk
 have e:l=l.take k++(l[k] :: l.drop (k+1)):=by simp
 have hc':=hc
 rw [e] at hc'
 obtain ⟨F1,F2',x1,x2',hFi,hxs,c1,c2'⟩:=Cells.split hc'
 obtain ⟨G,F2,cg,x2,rfl,rfl,hg,c2⟩:=c2'
 subst hFi hxs
 have hl1:x1.length=k*Rep.size α:=by rw [Cells.len c1,List.length_take];congr 1;omega
 have hlg:=Rep.len hg
 have hn':=hn
 rw [List.nodup_cons] at hn
 obtain ⟨hbn,hn⟩:=hn
 rw [List.nodup_append] at hn
 obtain ⟨hn1,hn2,hn3⟩:=hn
 rw [List.nodup_append] at hn2
 obtain ⟨hnG,hnF2,hn4⟩:=hn2
 obtain ⟨r1,r2⟩:=zaB hra
 obtain ⟨rg,r3⟩:=zaB r2
 rw [hl1] at rg r3
 have hwb:∃ c e,w.heap[b]?=some (.cells c e (0,0)):=hw b (by simp)
 refine ⟨b,o,cap,G,rfl,⟨cg,hg,rg,hnG,hw.sub (by simp +contextual),fun h=>hbn (by simp [h]),hwb⟩,by simp +contextual,fun w' G' y' hch hO hs=>?_⟩
 obtain ⟨cg',hg',rg',hnG',hwG',hbG',hwb'⟩:=hO
 have hlg':=Rep.len hg'
 have keep1:∀ c∈F1,w'.heap[c]?=w.heap[c]?:=fun c hc1=>by
   refine hch.chg.block c (Cells.lt c1 c hc1) fun hm=>?_
   rcases List.mem_cons.1 hm with rfl | hm
   · exact hbn (by simp [hc1])
   exact hn3 c hc1 c (by simp [hm]) rfl
 have keep2:∀ c∈F2,w'.heap[c]?=w.heap[c]?:=fun c hc1=>by
   refine hch.chg.block c (Cells.lt c2 c hc1) fun hm=>?_
   rcases List.mem_cons.1 hm with rfl | hm
   · exact hbn (by simp [hc1])
   exact hn4 c hm c hc1 rfl
 refine ⟨b :: (F1++(G'++F2)),⟨⟨_,⟨some ⟨b,o,none⟩,cap,F1++(G'++F2),x1++(cg'++x2),by simp,by simpa using h1,h2,?_,.inr ⟨b,o,rfl,rfl,?_,?_⟩⟩,rfl⟩,zkN hn' hnG' hs,?_⟩,?_⟩
 · have:l.set k y'=l.take k++(y' :: l.drop (k+1)):=by rw [List.set_eq_take_append_cons_drop];simp [hk]
   rw [this]
   exact Cells.append (Cells.keep c1 keep1) ⟨G',F2,cg',x2,rfl,rfl,hg',Cells.keep c2 keep2⟩
 · refine zdL (hch.range hwb r1 (.inl (by omega))) (zdL (by rw [hl1];exact rg') ?_)
   have e3:o+x1.length+cg'.length=o+k*Rep.size α+cg.length:=by omega
   rw [e3]
   exact hch.range hwb r3 (.inr (by omega))
 · obtain ⟨c,e,h⟩:=hwb';exact (Array.getElem?_eq_some_iff.1 h).1
 · intro c hcm
   rcases List.mem_cons.1 hcm with rfl | hcm
   · exact hwb'
   rcases List.mem_append.1 hcm with hcm | hcm
   · exact (hw.sub (G:=F1) (by simp +contextual)).keep keep1 c hcm
   rcases List.mem_append.1 hcm with hcm | hcm
   · exact hwG' c hcm
   exact (hw.sub (G:=F2) (by simp +contextual)).keep keep2 c hcm
 intro c hcm
 rcases List.mem_cons.1 hcm with rfl | hcm
 · exact .inl (by simp)
 rcases List.mem_append.1 hcm with hcm | hcm
 · exact .inl (by simp [hcm])
 rcases List.mem_append.1 hcm with hcm | hcm
 · exact .inr hcm
 exact .inl (by simp [hcm])
section pair
variable {γ:Type}
theorem Lens.fst {H:List Nat→World→γ→Prop} {F:List Nat} {b o:Nat} {G:List Nat} {p:α×β} {upd:α×β→γ} (h:Lens H F w b o G p upd) :
   ∃ G1,Lens H F w b o G1 p.1 (fun y=>upd (y,p.2)):=by
 obtain ⟨⟨cs,⟨G1,G2,c1,c2,rfl,rfl,h1,h2⟩,hr,hn,hw,hb,hwb⟩,hsub,hback⟩:=h
 obtain ⟨r1,r2⟩:=zaB hr
 have hl1:=Rep.len h1
 have hl2:=Rep.len h2
 have hn':=hn
 rw [List.nodup_append] at hn
 obtain ⟨hn1,hn2,hn3⟩:=hn
 simp only [List.mem_append,not_or] at hb
 refine ⟨G1,⟨c1,h1,r1,hn1,hw.sub (by simp +contextual),hb.1,hwb⟩,fun c hc=>hsub c (by rcases List.mem_cons.1 hc with rfl | hc<;>simp_all),fun w' G' y' hch hO hs=>?_⟩
 obtain ⟨c1',h1',r1',hn1',hw1',hb1',hwb'⟩:=hO
 have keep2:∀ c∈G2,w'.heap[c]?=w.heap[c]?:=fun c hc=>by
   refine hch.chg.block c (Rep.lt h2 c hc) fun hm=>?_
   rcases List.mem_cons.1 hm with rfl | hm
   · exact hb.2 hc
   exact hn3 c hm c hc rfl
 have hs':∀ c∈G'++G2,c∈G1++G2∨c∉F:=fun c hc=>by
   rcases List.mem_append.1 hc with hc | hc
   · rcases hs c hc with h | h
     · exact .inl (by simp [h])
     exact .inr h
   exact .inl (by simp [hc])
 have hnG:(G'++G2).Nodup:=by
   rw [List.nodup_append]
   refine ⟨hn1',hn2,fun a ha c hc e=>?_⟩
   subst e
   rcases hs a ha with h | h
   · exact hn3 a h a hc rfl
   exact h (hsub a (by simp [hc]))
 obtain ⟨F',hM,hF'⟩:=hback w' (G'++G2) (y',p.2) (hch.mono (Nat.le_refl _) (by simp only [Rep.size];omega) (by simp +contextual))
   ⟨c1'++c2,⟨G',G2,c1',c2,rfl,rfl,h1',Rep.keep h2 keep2⟩,zdL r1' (by
     rw [Rep.len h1',←hl1];exact hch.range hwb r2 (.inr (by rw [hl1];exact Nat.le_refl _))),hnG,hw1'.append ((hw.sub (by simp +contextual)).keep keep2),by simp [hb1',hb.2],hwb'⟩ hs'
 refine ⟨F',hM,fun c hc=>?_⟩
 rcases hF' c hc with h | h
 · exact .inl h
 rcases List.mem_append.1 h with h | h
 · exact .inr h
 exact .inl (hsub c (by simp [h]))
theorem Lens.snd {H:List Nat→World→γ→Prop} {F:List Nat} {b o:Nat} {G:List Nat} {p:α×β} {upd:α×β→γ} (h:Lens H F w b o G p upd) :
   ∃ G1,Lens H F w b (o+Rep.size α) G1 p.2 (fun y=>upd (p.1,y)):=by
 obtain ⟨⟨cs,⟨G1,G2,c1,c2,rfl,rfl,h1,h2⟩,hr,hn,hw,hb,hwb⟩,hsub,hback⟩:=h
 obtain ⟨r1,r2⟩:=zaB hr
 have hl1:=Rep.len h1
 have hl2:=Rep.len h2
 have hn':=hn
 rw [List.nodup_append] at hn
 obtain ⟨hn1,hn2,hn3⟩:=hn
 simp only [List.mem_append,not_or] at hb
 rw [hl1] at r2
 refine ⟨G2,⟨c2,h2,r2,hn2,hw.sub (by simp +contextual),hb.2,hwb⟩,fun c hc=>hsub c (by rcases List.mem_cons.1 hc with rfl | hc<;>simp_all),fun w' G' y' hch hO hs=>?_⟩
 obtain ⟨c2',h2',r2',hn2',hw2',hb2',hwb'⟩:=hO
 have keep1:∀ c∈G1,w'.heap[c]?=w.heap[c]?:=fun c hc=>by
   refine hch.chg.block c (Rep.lt h1 c hc) fun hm=>?_
   rcases List.mem_cons.1 hm with rfl | hm
   · exact hb.1 hc
   exact hn3 c hc c hm rfl
 have hs':∀ c∈G1++G',c∈G1++G2∨c∉F:=fun c hc=>by
   rcases List.mem_append.1 hc with hc | hc
   · exact .inl (by simp [hc])
   rcases hs c hc with h | h
   · exact .inl (by simp [h])
   exact .inr h
 have hnG:(G1++G').Nodup:=by
   rw [List.nodup_append]
   refine ⟨hn1,hn2',fun a ha c hc e=>?_⟩
   subst e
   rcases hs a hc with h | h
   · exact hn3 a ha a h rfl
   exact h (hsub a (by simp [ha]))
 obtain ⟨F',hM,hF'⟩:=hback w' (G1++G') (p.1,y') (hch.mono (by omega) (by simp only [Rep.size];omega) (by simp +contextual))
   ⟨c1++c2',⟨G1,G',c1,c2',rfl,rfl,Rep.keep h1 keep1,h2'⟩,zdL (hch.range hwb r1 (.inl (by rw [hl1];exact Nat.le_refl _))) (by rw [hl1];exact r2'),hnG,((hw.sub (by simp +contextual)).keep keep1).append hw2',by simp [hb.1,hb2'],hwb'⟩ hs'
 refine ⟨F',hM,fun c hc=>?_⟩
 rcases hF' c hc with h | h
 · exact .inl h
 rcases List.mem_append.1 h with h | h
 · exact .inl (hsub c (by simp [h]))
 exact .inr h
theorem Lens.row {H:List Nat→World→γ→Prop} {F:List Nat} {b o:Nat} {G:List Nat} {l:List β} {upd:List β→γ} (h:Lens H F w b o G l upd) :
   ∃ u,Mine G w u l∧w.rangeAt b o [u]∧(∀ c∈G,c∈F) ∧
     ∀ w' G' l',Chg G w w'→Mine G' w' u l'→(∀ c∈G',c∈G∨c∉F)→∃ F',H F' w' (upd l')∧∀ c∈F',c∈F∨c∈G':=by
 obtain ⟨⟨cs,hrep,hr,hn,hw,hb,hwb⟩,hsub,hback⟩:=h
 have hcs:∃ u,cs=[u]:=by obtain ⟨a,cap,Fi,xs,rfl,_⟩:=hrep;exact ⟨_,rfl⟩
 obtain ⟨u,rfl⟩:=hcs
 refine ⟨u,⟨⟨_,hrep,rfl⟩,hn,hw⟩,hr,fun c hc=>hsub c (by simp [hc]),fun w' G' l' hch hM hs=>?_⟩
 have hbl:b<w.heap.size:=by obtain ⟨c,e,h⟩:=hwb;exact (Array.getElem?_eq_some_iff.1 h).1
 have hbk:w'.heap[b]?=w.heap[b]?:=hch.block b hbl hb
 obtain ⟨⟨cs',hrep',hv'⟩,hn',hw'⟩:=hM
 have hcs':cs'=[u]:=by
   obtain ⟨a,cap,Fi,xs,rfl,_⟩:=hrep'
   simp only [mkv,Rep.agg,cond_false,List.headD_cons] at hv'
   rw [hv']
 subst hcs'
 have hbG':b∉G':=fun hm=>by
   rcases hs b hm with h | h
   · exact hb h
   exact h (hsub b (by simp))
 exact hback w' G' l' ⟨hch.mono (by simp +contextual),fun c e hc=>⟨c,by rw [hbk];exact hc,fun _ _=>rfl⟩⟩
   ⟨_,hrep',zaY hr hbk,hn',hw',hbG',by obtain ⟨c,e,h⟩:=hwb;exact ⟨c,e,by rw [hbk];exact h⟩⟩ hs
theorem Lens.elem {H:List Nat→World→γ→Prop} {F:List Nat} {b o:Nat} {G:List Nat} {l:List β} {upd:List β→γ} (h:Lens H F w b o G l upd) {k:Nat} (hk:k<l.length) :
   ∃ u b2 a cap G2,w.rangeAt b o [u]∧Is w u l∧u=.slice (some ⟨b2,a,none⟩) l.length cap∧Lens H F w b2 (a+k*Rep.size β) G2 l[k] (fun y=>upd (l.set k y)):=by
 obtain ⟨u,hM,hr,hG,hb⟩:=h.row
 obtain ⟨b2,a,cap,G2,hu,hL⟩:=zoP hM hk
 refine ⟨u,b2,a,cap,G2,hr,hM.is,hu,hL.here,fun c hc=>hG c (hL.sub c hc),fun w' G' y' hch hO hs=>?_⟩
 obtain ⟨F1,hM1,hF1⟩:=hL.back w' G' y' hch hO fun c hc=>by
   rcases hs c hc with h | h
   · exact .inl h
   exact .inr fun e=>h (hG c e)
 obtain ⟨F',hM',hF'⟩:=hb w' F1 _ (hch.chg.mono hL.sub) hM1 fun c hc=>by
   rcases hF1 c hc with h | h
   · exact .inl h
   rcases hs c h with h | h
   · exact .inl (hL.sub c (by simp [h]))
   exact .inr h
 refine ⟨F',hM',fun c hc=>?_⟩
 rcases hF' c hc with h | h
 · exact .inl h
 rcases hF1 c h with h | h
 · exact .inl (hG c h)
 exact .inr h
end pair
theorem zmZ {t by_ b o:Nat} {G:List Nat} {y y':β} {u:Value} {G':List Nat} {K:World→Prop} (ht:tyI P t=some (Rep.size β,by_,Rep.agg β)) (h:OAt G w b o y)
   (hu:OwnF G' w u y') (hn:G'.Nodup) (hwr:Wr G' w) (hb:b∉G') (k:∀ w',ChgAt b o (Rep.size β) [] w w'→OAt G' w' b o y'→K w'):OPU P (Instr.storeAt t (.pointer (some ⟨b,o,none⟩)) u) w K:=by
 obtain ⟨us,hr,rfl⟩:=hu
 obtain ⟨cs,hr0,ha,hn0,hw0,hb0,c,e,hc⟩:=h
 have hl0:=Rep.len hr0
 have hlu:=Rep.len hr
 have hpos:=Rep.pos (α:=β)
 have hcell:∀ j,j<cs.length→c[o+j]?=cs[j]?:=by
   intro j hj
   have:=ha j cs[j] (by simp [hj])
   simpa [World.cell?,hc,hj] using this
 have hfit:o+Rep.size β≤c.size:=by
   have hj:cs.length-1<cs.length:=by omega
   have:=hcell (cs.length-1) hj
   rw [List.getElem?_eq_getElem hj] at this
   have:=(Array.getElem?_eq_some_iff.1 this).1
   omega
 have hst:=zdb (P:=P) (e:=e) (cur:=c) ht hr hc hfit
 have hset:=setRow_heap w b c ((c.toList.take o++us++c.toList.drop (o+us.length)).toArray) e _ hc
 refine ⟨_,hst,k _ ⟨(zcV w b _).mono (by simp),fun c1 e1 hc1=>?_⟩ ?_⟩
 · rw [hc] at hc1
   simp only [Option.some.injEq,Obj.cells.injEq,and_true] at hc1
   obtain ⟨rfl,rfl⟩:=hc1
   refine ⟨_,hset,fun j hj=>?_⟩
   simp only [List.getElem?_toArray]
   rcases hj with hj | hj
   · rw [List.append_assoc,List.getElem?_append_left (by simp only [List.length_take,Array.length_toList];omega),List.getElem?_take,if_pos hj,Array.getElem?_toList]
   rw [List.getElem?_append_right (by simp only [List.length_append,List.length_take,Array.length_toList];omega),List.getElem?_drop,Array.getElem?_toList]
   congr 1
   simp only [List.length_append,List.length_take,Array.length_toList];omega
 have hkeep:∀ x∈G',(w.setRow b ((c.toList.take o++us++c.toList.drop (o+us.length)).toArray)).heap[x]?=w.heap[x]?:=fun x hx=>
   (zcV w b _).block x (hwr.lt x hx) (by simp;exact fun e=>hb (e▸hx))
 refine ⟨us,Rep.keep hr hkeep,fun j v hv=>?_,hn,hwr.keep hkeep,hb,_,e,hset⟩
 have hj:j<us.length:=(List.getElem?_eq_some_iff.1 hv).1
 simp only [World.cell?,hset]
 simp only [Option.isSome_none,Bool.false_eq_true,if_false,List.getElem?_toArray]
 rw [List.append_assoc,List.getElem?_append_right (by simp only [List.length_take,Array.length_toList];omega),List.getElem?_append_left (by simp only [List.length_take,Array.length_toList];omega),←hv]
 congr 1
 simp only [List.length_take,Array.length_toList];omega
theorem zf9 {t by_ b o:Nat} {H:List Nat→World→α→Prop} {F G:List Nat} {y y':β} {upd:β→α} {u:Value} {G':List Nat} {K:World→Prop} (ht:tyI P t=some (Rep.size β,by_,Rep.agg β)) (h:Lens H F w b o G y upd)
   (hu:Mine G' w u y') (hs:∀ c∈G',c∈G∨c∉F) (k:∀ w',Chg F w w'→(∃ F',H F' w' (upd y')∧∀ c∈F',c∈F∨c∈G')→K w'):OPU P (Instr.storeAt t (.pointer (some ⟨b,o,none⟩)) u) w K:=by
 have hbG':b∉G':=fun hm=>by
   rcases hs b hm with h' | h'
   · obtain ⟨cs,_,_,_,_,hb,_⟩:=h.here;exact hb h'
   exact h' (h.sub b (by simp))
 refine zmZ ht h.here hu.own hu.nodup hu.wr hbG' fun w' hch hO=>k w' (hch.chg.mono fun c hc=>h.sub c (by simp at hc;simp [hc])) ?_
 obtain ⟨F',h1,h2⟩:=h.back w' G' y' (hch.mono (Nat.le_refl _) (Nat.le_refl _) (by simp)) hO hs
 exact ⟨F',h1,h2⟩
end
class RepZ (α:Type) [Rep α] where
 zv:α
 zc:List Value
 zr:∀ w,rep [] w zc zv
instance:RepZ Int:=⟨0,[.int .i64 0],fun _=>⟨rfl,rfl,by unfold I64;omega⟩⟩
instance:RepZ Bool:=⟨false,[.bool false],fun _=>⟨rfl,rfl⟩⟩
instance:RepZ ByteArray:=⟨ByteArray.empty,[.string ByteArray.empty],fun _=>⟨rfl,rfl,Nat.zero_le _⟩⟩
instance {α:Type} [Rep α]:RepZ (List α):=⟨[],[.slice none 0 0],fun _=>⟨none,0,[],[],rfl,Nat.le_refl _,Nat.zero_le _,⟨rfl,rfl⟩,.inl ⟨rfl,rfl⟩⟩⟩
instance {α β:Type} [Rep α] [Rep β] [RepZ α] [RepZ β]:RepZ (α×β):=⟨((RepZ.zv:α),(RepZ.zv:β)),RepZ.zc α++RepZ.zc β,fun w=>⟨[],[],_,_,rfl,rfl,RepZ.zr w,RepZ.zr w⟩⟩
def OwnI {α:Type} [Rep α] (lo hi:Nat) (w:World) (v:Value) (x:α):Prop:=∃ F,Mine F w v x∧∀ b∈F,lo≤b∧b<hi
structure ChgI (lo hi:Nat) (w w':World):Prop where
 os:w'.os=w.os
 tape:w'.tape=w.tape
 output:w'.output=w.output
 size:w.heap.size≤w'.heap.size
 block:∀ b,b<w.heap.size→(b<lo∨hi≤b)→w'.heap[b]?=w.heap[b]?
section
variable {w w':World} {α:Type} [Rep α] {lo hi a b:Nat} {v:Value} {x:α}
theorem Chg.toI {F:List Nat} (h:Chg F w w') (hF:∀ b∈F,lo≤b∧b<hi):ChgI lo hi w w':=
 ⟨h.os,h.tape,h.output,h.size,fun i hi' ho=>h.block i hi' fun e=>by have:=hF i e;omega⟩
theorem Ext.toI (h:Ext w w'):ChgI lo hi w w':=⟨h.os,h.tape,h.output,h.size,fun i hi' _=>h.block i hi'⟩
theorem ChgI.refl (w:World):ChgI lo hi w w:=⟨rfl,rfl,rfl,Nat.le_refl _,fun _ _ _=>rfl⟩
theorem ChgI.trans {w'':World} (h:ChgI lo hi w w') (k:ChgI lo hi w' w''):ChgI lo hi w w'':=
 ⟨k.os.trans h.os,k.tape.trans h.tape,k.output.trans h.output,Nat.le_trans h.size k.size,fun i hi' ho=>(k.block i (Nat.lt_of_lt_of_le hi' h.size) ho).trans (h.block i hi' ho)⟩
theorem ChgI.mono {lo' hi':Nat} (h:ChgI lo hi w w') (h1:lo'≤lo) (h2:hi≤hi'):ChgI lo' hi' w w':=
 ⟨h.os,h.tape,h.output,h.size,fun i hi' ho=>h.block i hi' (by omega)⟩
theorem Ext.chgI {c:World} (h:Ext w w') (k:ChgI lo hi w' c) (hl:w.heap.size≤lo):Ext w c:=
 ⟨k.os.trans h.os,k.tape.trans h.tape,k.output.trans h.output,Nat.le_trans h.size k.size,fun i hi'=>(k.block i (Nat.lt_of_lt_of_le hi' h.size) (by omega)).trans (h.block i hi')⟩
theorem Own.toI (h:Own lo w v x):OwnI lo w.heap.size w v x:=by
 obtain ⟨F,hm,hl⟩:=h;exact ⟨F,hm,fun b hb=>⟨hl b hb,hm.lt b hb⟩⟩
theorem OwnI.own (h:OwnI lo hi w v x):Own lo w v x:=by
 obtain ⟨F,hm,hl⟩:=h;exact ⟨F,hm,fun b hb=>(hl b hb).1⟩
theorem OwnI.is (h:OwnI lo hi w v x):Is w v x:=by obtain ⟨F,hm,_⟩:=h;exact hm.is
theorem OwnI.ext (h:OwnI lo hi w v x) (hx:Ext w w'):OwnI lo hi w' v x:=by obtain ⟨F,hm,hl⟩:=h;exact ⟨F,hm.ext hx,hl⟩
theorem OwnI.chg (h:OwnI lo hi w v x) (hc:ChgI a b w w') (hd:hi≤a∨b≤lo):OwnI lo hi w' v x:=by
 obtain ⟨F,hm,hl⟩:=h
 exact ⟨F,hm.keep fun c hcm=>hc.block c (hm.lt c hcm) (by have:=hl c hcm;omega),hl⟩
theorem OwnI.mono {lo' hi':Nat} (h:OwnI lo hi w v x) (h1:lo'≤lo) (h2:hi≤hi'):OwnI lo' hi' w v x:=by
 obtain ⟨F,hm,hl⟩:=h;exact ⟨F,hm,fun b hb=>by have:=hl b hb;omega⟩
def VarI {α:Type} [Rep α] (lo hi:Nat) (w:World) (g:Nat) (x:α):Prop:=∃ F,OAt F w g 0 x∧∀ b∈F,lo≤b∧b<hi
theorem OAt.keep {F:List Nat} {g o:Nat} (h:OAt F w g o x) (hk:∀ c∈g :: F,w'.heap[c]?=w.heap[c]?):OAt F w' g o x:=by
 obtain ⟨cs,hr,ha,hn,hw,hb,c,e,hc⟩:=h
 have hg:=hk g (by simp)
 exact ⟨cs,Rep.keep hr fun b hb=>hk b (by simp [hb]),zaY ha hg,hn,hw.keep fun b hb=>hk b (by simp [hb]),hb,c,e,by rw [hg];exact hc⟩
theorem VarI.lt {g:Nat} (h:VarI lo hi w g x):g<w.heap.size:=by obtain ⟨F,h,_⟩:=h;exact h.lt
theorem OAt.lts {F:List Nat} {g o:Nat} (h:OAt F w g o x):∀ c∈g :: F,c<w.heap.size:=by
 intro c hc
 rcases List.mem_cons.1 hc with rfl | hc
 · exact h.lt
 obtain ⟨cs,hr,_⟩:=h;exact Rep.lt hr c hc
theorem VarI.ext {g:Nat} (h:VarI lo hi w g x) (hx:Ext w w'):VarI lo hi w' g x:=by
 obtain ⟨F,h,hl⟩:=h
 exact ⟨F,h.keep fun c hc=>hx.heap (h.lts c hc),hl⟩
theorem VarI.chg {g:Nat} (h:VarI lo hi w g x) (hc:ChgI a b w w') (hd:hi≤a∨b≤lo) (hg:g<a∨b≤g):VarI lo hi w' g x:=by
 obtain ⟨F,h,hl⟩:=h
 refine ⟨F,h.keep fun c hcm=>hc.block c (h.lts c hcm) ?_,hl⟩
 rcases List.mem_cons.1 hcm with rfl | hcm
 · omega
 have:=hl c hcm;omega
theorem VarI.at {g:Nat} (h:VarI lo hi w g x):At w g 0 x:=by obtain ⟨F,h,_⟩:=h;exact h.at
theorem VarI.own {g:Nat} (h:VarI lo hi w g x):∃ v,OwnI lo hi w v x∧∃ cs F,Rep.rep F w cs x∧w.rangeAt g 0 cs∧v=mkv α cs:=by
 obtain ⟨F,⟨cs,hr,ha,hn,hw,_⟩,hl⟩:=h
 exact ⟨mkv α cs,⟨F,⟨⟨cs,hr,rfl⟩,hn,hw⟩,hl⟩,cs,F,hr,ha,rfl⟩
section
variable {P:Program} {w0:World}
theorem zdz [RepZ α] {e:TypeId} {K:Value→World→Prop} (hz:zb9 P e=some (RepZ.zc α))
   (k:∀ w',Ext w w'→VarI w'.heap.size w'.heap.size w' w.heap.size ((RepZ.zv:α))→K (.pointer (some ⟨w.heap.size,0,none⟩)) w'):OP P (Instr.alloc e true (.tuple #[])) w K:=
 zaF hz fun w' hx hB=>k w' hx ⟨[],⟨RepZ.zc α,RepZ.zr w',hB.range,List.nodup_nil,Wr.nil _,by simp,_,_,hB⟩,by simp⟩
theorem zes {t by_ g:Nat} {K:Value→Prop} (ht:tyI P t=some (Rep.size α,by_,Rep.agg α)) (h:VarI lo hi w0 g x) (hx:Ext w0 w) (k:∀ v,OwnI lo hi w0 v x→K v) :
   RD P (Instr.loadAt t (.pointer (some ⟨g,0,none⟩))) w K:=by
 obtain ⟨v,ho,cs,F,hr,ha,rfl⟩:=h.own
 exact zaV (fun w' hx'=>zer ht (zbV hr (hx.trans hx')) (zbW ha (hx.trans hx'))) (k _ ho)
theorem zbX {t by_ g:Nat} {K:Value→Prop} (ht:tyI P t=some (Rep.size α,by_,Rep.agg α)) (h:VarI lo hi w0 g x) (hx:Ext w0 w) (k:∀ v,OwnI lo hi w0 v x→K v) :
   RD P (zar t (.pointer (some ⟨g,0,none⟩))) w K:=by
 obtain ⟨v,ho,cs,F,hr,ha,rfl⟩:=h.own
 refine zaV (fun w' hx'=>?_) (k _ ho)
 have:=zer ht (zbV hr (hx.trans hx')) (zbW ha (hx.trans hx'))
 simpa [zar,asAddr,Instr.loadAt,Instr.sureAddr] using this
theorem zqw {β:Type} [Rep β] {t by_ g o:Nat} {F G:List Nat} {y y':β} {upd:β→α} {u:Value} {lo2 hi2:Nat} {K:World→Prop} (ht:tyI P t=some (Rep.size β,by_,Rep.agg β)) (hL:Lens (VH g) (g :: F) w g o G y upd) (hF:∀ b∈F,lo≤b∧b<hi)
   (hu:OwnI lo2 hi2 w u y') (h1:hi≤lo2) (h2:g<lo2) (k:∀ w',ChgI g (g+1) w w'→(∀ lo',lo'≤lo→lo'≤lo2→∀ hi',hi≤hi'→hi2≤hi'→VarI lo' hi' w' g (upd y'))→K w'):OPU P (Instr.storeAt t (.pointer (some ⟨g,o,none⟩)) u) w K:=by
 obtain ⟨G',hM,hG'⟩:=hu
 have hs:∀ c∈G',c∈G∨c∉g :: F:=fun c hc=>.inr fun hm=>by
   have:=hG' c hc
   rcases List.mem_cons.1 hm with rfl | hm
   · omega
   have:=hF c hm;omega
 have hgG':g∉G':=fun h=>by have:=hG' g h;omega
 refine zmZ ht hL.here hM.own hM.nodup hM.wr hgG' fun w' hch hO=>k w' (hch.chg.toI (by simp)) ?_
 obtain ⟨F',h3,h4⟩:=hL.back w' G' y' (hch.mono (Nat.le_refl _) (Nat.le_refl _) (by simp)) hO hs
 intro lo' hl1 hl2 hi' hh1 hh2
 refine ⟨F',h3,fun c hc=>?_⟩
 rcases h4 c hc with h | h
 · rcases List.mem_cons.1 h with rfl | h
   · obtain ⟨_,_,_,_,_,hn,_⟩:=h3;exact absurd hc hn
   have:=hF c h;omega
 have:=hG' c h;omega
theorem za9 {t by_ g:Nat} {x0:α} {lo0 hi0:Nat} {u:Value} {K:World→Prop} (ht:tyI P t=some (Rep.size α,by_,Rep.agg α)) (hv:VarI lo0 hi0 w g x0) (hu:OwnI lo hi w u x) (hg:g<lo∨hi≤g)
   (k:∀ w',ChgI g (g+1) w w'→VarI lo hi w' g x→K w'):OPU P (Instr.storeAt t (.pointer (some ⟨g,0,none⟩)) u) w K:=by
 obtain ⟨F,hO,_⟩:=hv
 obtain ⟨G',hM,hG'⟩:=hu
 have hgG':g∉G':=fun h=>by have:=hG' g h;omega
 exact zmZ ht hO hM.own hM.nodup hM.wr hgG' fun w' hch hO'=>k w' (hch.chg.toI (by simp)) ⟨G',hO',hG'⟩
end
theorem zcc {x:Int} (h:I64 x):OwnI lo hi w (.int .i64 x) x:=⟨[],⟨⟨_,⟨rfl,rfl,h⟩,rfl⟩,List.nodup_nil,Wr.nil w⟩,by simp⟩
theorem zhC {x:ByteArray} (h:x.size≤maxLen):OwnI lo hi w (.string x) x:=⟨[],⟨⟨_,⟨rfl,rfl,h⟩,rfl⟩,List.nodup_nil,Wr.nil w⟩,by simp⟩
end
end Go.Sh
namespace Go.Sh
open Rep (rep)
section
variable {w:World} {b o:Nat}
theorem zaC {α β:Type} [Rep α] [Rep β] {F G:List Nat} {c1 c2:List Value} {x:α} {y:β} (h1:rep F w c1 x) (h2:rep G w c2 y):rep (F++G) w (c1++c2) (x,y):=⟨F,G,c1,c2,rfl,rfl,h1,h2⟩
theorem zaS {α:Type} [Rep α] (ha:Rep.agg α=false) {F:List Nat} {v:Value} {x:α} (h:OwnF F w v x):rep F w [v] x:=by
 obtain ⟨cs,hr,rfl⟩:=h
 have hl:=Rep.len hr
 rw [Rep.sz ha] at hl
 obtain ⟨c,rfl⟩:=List.length_eq_one_iff.1 hl
 simpa [mkv,ha] using hr
end
structure DRace where
 g:Int
 a:Int
 b:Int
theorem DRace.ext_iff {x y:DRace}:x=y↔(x.g=y.g∧x.a=y.a∧x.b=y.b):=⟨fun h=>by rw [h];exact ⟨rfl,rfl,rfl⟩,fun h=>by obtain ⟨h0,h1,h2⟩:=h;cases x;cases y;simp only at h0 h1 h2;simp only [h0,h1,h2]⟩
instance:DecidableEq DRace:=fun x y=>decidable_of_iff (x.g=y.g∧x.a=y.a∧x.b=y.b) DRace.ext_iff.symm
instance:Rep DRace:=Rep.via fun x=>(x.g,x.a,x.b)
theorem zfj {w:World} {b o:Nat} {x:DRace} (h:At w b o x):At w b (o+0) x.g:=zbT (α:=Int) (β:=Int×Int) (p:=(x.g,x.a,x.b)) h
theorem zcW {w:World} {b o:Nat} {x:DRace} (h:At w b o x):At w b (o+1) x.a:=zbT (α:=Int) (β:=Int) (p:=(x.a,x.b)) (zaP (α:=Int) (β:=Int×Int) (p:=(x.g,x.a,x.b)) h)
theorem zgL {w:World} {b o:Nat} {x:DRace} (h:At w b o x):At w b (o+2) x.b:=zaP (α:=Int) (β:=Int) (p:=(x.a,x.b)) (zaP (α:=Int) (β:=Int×Int) (p:=(x.g,x.a,x.b)) h)
instance:RepZ DRace:=⟨⟨(RepZ.zv:Int),(RepZ.zv:Int),(RepZ.zv:Int)⟩,RepZ.zc (Int×Int×Int),fun w=>RepZ.zr (α:=Int×Int×Int) w⟩
theorem zkO {γ:Type} {H:List Nat→World→γ→Prop} {F:List Nat} {w:World} {b o:Nat} {G:List Nat} {x:DRace} {upd:DRace→γ} (h:Lens H F w b o G x upd) :
   ∃ G1,Lens H F w b (o+1) G1 x.a (fun y=>upd ⟨x.g,y,x.b⟩):=by
 have h':Lens H F w b o G (x.g,x.a,x.b) (fun p:Int×Int×Int=>upd ⟨p.1,p.2.1,p.2.2⟩):=⟨h.here,h.sub,fun w' G' y' hc hO hs=>h.back w' G' _ hc hO hs⟩
 obtain ⟨G0,h'⟩:=h'.snd
 obtain ⟨G1,h'⟩:=h'.fst
 exact ⟨_,h'⟩
theorem zkP {γ:Type} {H:List Nat→World→γ→Prop} {F:List Nat} {w:World} {b o:Nat} {G:List Nat} {x:DRace} {upd:DRace→γ} (h:Lens H F w b o G x upd) :
   ∃ G1,Lens H F w b (o+2) G1 x.b (fun y=>upd ⟨x.g,x.a,y⟩):=by
 have h':Lens H F w b o G (x.g,x.a,x.b) (fun p:Int×Int×Int=>upd ⟨p.1,p.2.1,p.2.2⟩):=⟨h.here,h.sub,fun w' G' y' hc hO hs=>h.back w' G' _ hc hO hs⟩
 obtain ⟨G0,h'⟩:=h'.snd
 obtain ⟨G1,h'⟩:=h'.snd
 exact ⟨_,h'⟩
instance:Flat DRace:=⟨fun h=>Flat.flat (α:=Int×Int×Int) h⟩
structure DState where
 vars:List Int
 owner:List Int
 stacks:List (List Int)
theorem DState.ext_iff {x y:DState}:x=y↔(x.vars=y.vars∧x.owner=y.owner∧x.stacks=y.stacks):=⟨fun h=>by rw [h];exact ⟨rfl,rfl,rfl⟩,fun h=>by obtain ⟨h0,h1,h2⟩:=h;cases x;cases y;simp only at h0 h1 h2;simp only [h0,h1,h2]⟩
instance:DecidableEq DState:=fun x y=>decidable_of_iff (x.vars=y.vars∧x.owner=y.owner∧x.stacks=y.stacks) DState.ext_iff.symm
instance:Rep DState:=Rep.via fun x=>(x.vars,x.owner,x.stacks)
theorem zcf {w:World} {b o:Nat} {x:DState} (h:At w b o x):At w b (o+0) x.vars:=zbT (α:=List Int) (β:=(List Int)×(List (List Int))) (p:=(x.vars,x.owner,x.stacks)) h
theorem zbd {w:World} {b o:Nat} {x:DState} (h:At w b o x):At w b (o+1) x.owner:=zbT (α:=List Int) (β:=(List (List Int))) (p:=(x.owner,x.stacks)) (zaP (α:=List Int) (β:=(List Int)×(List (List Int))) (p:=(x.vars,x.owner,x.stacks)) h)
theorem zau {w:World} {b o:Nat} {x:DState} (h:At w b o x):At w b (o+2) x.stacks:=zaP (α:=List Int) (β:=(List (List Int))) (p:=(x.owner,x.stacks)) (zaP (α:=List Int) (β:=(List Int)×(List (List Int))) (p:=(x.vars,x.owner,x.stacks)) h)
theorem znT {w:World} {x:DState} {F0:List Nat} {c0:List Value} (h0:rep F0 w c0 x.vars) {F1:List Nat} {c1:List Value} (h1:rep F1 w c1 x.owner) {F2:List Nat} {c2:List Value} (h2:rep F2 w c2 x.stacks):rep (F0++(F1++F2)) w (c0++(c1++c2)) x:=zaC h0 (zaC h1 (h2))
instance:RepZ DState:=⟨⟨(RepZ.zv:List Int),(RepZ.zv:List Int),(RepZ.zv:List (List Int))⟩,RepZ.zc ((List Int)×(List Int)×(List (List Int))),fun w=>RepZ.zr (α:=(List Int)×(List Int)×(List (List Int))) w⟩
theorem zga {γ:Type} {H:List Nat→World→γ→Prop} {F:List Nat} {w:World} {b o:Nat} {G:List Nat} {x:DState} {upd:DState→γ} (h:Lens H F w b o G x upd) :
   ∃ G1,Lens H F w b (o+2) G1 x.stacks (fun y=>upd ⟨x.vars,x.owner,y⟩):=by
 have h':Lens H F w b o G (x.vars,x.owner,x.stacks) (fun p:(List Int)×(List Int)×(List (List Int))=>upd ⟨p.1,p.2.1,p.2.2⟩):=⟨h.here,h.sub,fun w' G' y' hc hO hs=>h.back w' G' _ hc hO hs⟩
 obtain ⟨G0,h'⟩:=h'.snd
 obtain ⟨G1,h'⟩:=h'.snd
 exact ⟨_,h'⟩
theorem znU {w:World} {F:List Nat} {cs:List Value} {x:DState} (h:rep F w cs x):∃ F0 c0 F1 c1 F2 c2,F=(F0++(F1++F2))∧cs=(c0++(c1++c2))∧rep F0 w c0 x.vars∧rep F1 w c1 x.owner∧rep F2 w c2 x.stacks:=by
 obtain ⟨F0,G0,c0,d0,rfl,rfl,h0,h⟩:=h
 obtain ⟨F1,G1,c1,d1,rfl,rfl,h1,h⟩:=h
 exact ⟨_,_,_,_,_,_,rfl,rfl,h0,h1,h⟩
section
variable {w:World} {b o:Nat}
theorem zjG {v:Value} {x:DRace}:Is w v x↔v=.agg #[.int .i64 x.g,.int .i64 x.a,.int .i64 x.b]∧I64 x.g∧I64 x.a∧I64 x.b:=by
 constructor
 · rintro ⟨F,cs,⟨F1,F2,c1,c2,rfl,rfl,⟨rfl,rfl,h1⟩,⟨F3,F4,c3,c4,rfl,rfl,⟨rfl,rfl,h2⟩,⟨rfl,rfl,h3⟩⟩⟩,rfl⟩
   exact ⟨rfl,h1,h2,h3⟩
 rintro ⟨rfl,h1,h2,h3⟩
 exact ⟨[],[.int .i64 x.g,.int .i64 x.a,.int .i64 x.b],⟨[],[],[.int .i64 x.g],[.int .i64 x.a,.int .i64 x.b],rfl,rfl,⟨rfl,rfl,h1⟩,[],[],[.int .i64 x.a],[.int .i64 x.b],rfl,rfl,⟨rfl,rfl,h2⟩,⟨rfl,rfl,h3⟩⟩,rfl⟩
theorem zkQ {x:DRace} (h1:I64 x.g) (h2:I64 x.a) (h3:I64 x.b):Mine [] w (.agg #[.int .i64 x.g,.int .i64 x.a,.int .i64 x.b]) x:=
 ⟨⟨[.int .i64 x.g,.int .i64 x.a,.int .i64 x.b],⟨[],[],[.int .i64 x.g],[.int .i64 x.a,.int .i64 x.b],rfl,rfl,⟨rfl,rfl,h1⟩,[],[],[.int .i64 x.a],[.int .i64 x.b],rfl,rfl,⟨rfl,rfl,h2⟩,⟨rfl,rfl,h3⟩⟩,rfl⟩,List.nodup_nil,Wr.nil w⟩
theorem znV {F G H:List Nat} {a b c:Value} {s:DState} (h1:Mine F w a s.vars) (h2:Mine G w b s.owner) (h3:Mine H w c s.stacks) (hn:(F++(G++H)).Nodup):Mine (F++(G++H)) w (.agg #[a,b,c]) s:=
 ⟨⟨[a,b,c],zaC (zaS rfl h1.own) (zaC (zaS rfl h2.own) (zaS rfl h3.own)),rfl⟩,hn,h1.wr.append (h2.wr.append h3.wr)⟩
end
end Go.Sh
namespace Go.Sh
open Rep (rep)
def zkR (P:Program) (t:TypeId) (α:Type) [Rep α] (n:Nat):Prop:=
 ∀ (H:Type) (enc:TypeId×Value→H) (w:World) (spare:Nat→Bool) (held:Bool) (cs:List Value) (y:DataW H×List MemPlace),DataW.trod enc P w 0 spare held n t cs=some y→∃ F x,rep F w cs (x:α)
section
variable {P:Program} {t:TypeId}
theorem zkS {α β:Type} {f:α→Option β}:∀ {l:List α} {r:List β},l.mapM f=some r→l.length=r.length∧∀ (i:Nat) x,l[i]?=some x→∃ y,f x=some y∧r[i]?=some y
 | [],r,h=>by simp at h;subst h;simp
 | a :: l,r,h=>by
   simp only [List.mapM_cons,Option.pure_def,Option.bind_eq_bind,Option.bind_eq_some_iff,Option.some.injEq] at h
   obtain ⟨b,hb,bs,hbs,rfl⟩:=h
   obtain ⟨h1,h2⟩:=zkS hbs
   refine ⟨by simp [h1],fun i x hx=>?_⟩
   cases i with
   | zero=>simp at hx;subst hx;exact ⟨b,hb,by simp⟩
   | succ i=>obtain ⟨y,hy,hr⟩:=h2 i x (by simpa using hx);exact ⟨y,hy,by simpa using hr⟩
theorem zlZ {w:World} {a:Addr} {n:Nat} {cs:List Value} (h:w.cells? 0 a n=some cs):cs.length=n∧∀ j v,cs[j]?=some v→w.cell? (a.add j)=some v:=by
 unfold World.cells? at h
 simp only [Nat.zero_le,if_true] at h
 obtain ⟨h1,h2⟩:=zkS h
 simp only [List.length_range] at h1
 refine ⟨h1.symm,fun j v hv=>?_⟩
 have hj:j<cs.length:=(List.getElem?_eq_some_iff.1 hv).1
 obtain ⟨y,hy,hr⟩:=h2 j j (by rw [List.getElem?_range (by omega)])
 rw [hr] at hv
 cases hv
 exact hy
theorem zoQ {w:World} {a:Addr} {v:Value} (h:w.cell? a=some v):a.spot=none:=by
 unfold World.cell? at h
 split at h
 · split at h
   · cases h
   rename_i hs;simpa using hs
 cases h
theorem zkT {α:Type} [Rep α] {w:World} {b o:Nat}:∀ (n:Nat),(∀ i,i<n→∃ (cs:List Value) (F:List Nat) (x:α),w.rangeAt b (o+i*Rep.size α) cs∧rep F w cs x) →
   ∃ (F:List Nat) (xs:List Value) (l:List α),l.length=n∧Cells F w xs l∧w.rangeAt b o xs
 | 0,_=>⟨[],[],[],rfl,⟨rfl,rfl⟩,fun j v hv=>by simp at hv⟩
 | n+1,h=>by
   obtain ⟨F,xs,l,hl,hc,hr⟩:=zkT n fun i hi=>h i (by omega)
   obtain ⟨cs,G,x,hra,hx⟩:=h n (by omega)
   refine ⟨F++G,xs++cs,l++[x],by simp [hl],Cells.append hc (Cells.single hx),?_⟩
   intro j v hv
   have hlen:=Cells.len hc
   rw [hl] at hlen
   rcases Nat.lt_or_ge j xs.length with hj | hj
   · rw [List.getElem?_append_left hj] at hv;exact hr j v hv
   rw [List.getElem?_append_right hj] at hv
   have:=hra (j-xs.length) v hv
   rwa [show o+n*Rep.size α+(j-xs.length)=o+j by omega] at this
theorem zl0 {e:TypeId} {α:Type} [Rep α] {n:Nat} (ht:P.underlying t=some (.slice e)) (hc:P.cellsOf e=Rep.size α) (he:zkR P e α n):zkR P t (List α) (n+1):=by
 intro H enc w spare held cs y h
 rcases DataW.trod_slice ht h with ⟨rfl,_⟩ | ⟨a,len,cap,elems,rest,m,hm,rfl,_,_,h1,h2,h3,h4,_⟩
 · exact ⟨[],[],none,0,[],[],rfl,Nat.le_refl _,Nat.zero_le _,⟨rfl,rfl⟩,.inl ⟨rfl,rfl⟩⟩
 obtain rfl:m=n:=by omega
 by_cases h0:len=0
 · subst h0
   exact ⟨[],[],some a,cap,[],[],rfl,Nat.zero_le _,h2,⟨rfl,rfl⟩,.inl ⟨rfl,rfl⟩⟩
 have key:∀ i,i<len→∃ (cs:List Value) (F:List Nat) (x:α),cs.length=Rep.size α∧(∀ j v,cs[j]?=some v→w.cell? ((a.add (i*P.cellsOf e)).add j)=some v)∧rep F w cs x:=by
   intro i hi
   have hy:=h4 i hi
   rw [List.getElem?_eq_getElem (by omega)] at hy
   obtain ⟨cs,hcs,hy⟩:=Option.bind_eq_some_iff.1 hy
   obtain ⟨F,x,hx⟩:=he H enc w spare held cs _ hy
   obtain ⟨hl,hcell⟩:=zlZ hcs
   exact ⟨cs,F,x,by rw [hl,hc],hcell,hx⟩
 have hsp:a.spot=none:=by
   obtain ⟨cs,F,x,hl,hcell,_⟩:=key 0 (by omega)
   have hp:=Rep.pos (α:=α)
   have:=hcell 0 (cs[0]'(by omega)) (by rw [List.getElem?_eq_getElem])
   simpa [Addr.add] using zoQ this
 obtain ⟨b,o,sp⟩:=a
 simp only at hsp
 subst hsp
 obtain ⟨F,xs,l,hl,hC,hR⟩:=zkT (α:=α) (w:=w) (b:=b) (o:=o) len fun i hi=>by
   obtain ⟨cs,F,x,_,hcell,hx⟩:=key i hi
   refine ⟨cs,F,x,fun j v hv=>?_,hx⟩
   have:=hcell j v hv
   rw [hc] at this
   rwa [Addr.add_mid,Addr.add_mid] at this
 have hb:b<w.heap.size:=zgK hR (by rw [Cells.len hC,hl];exact Nat.mul_pos (by omega) Rep.pos)
 subst hl
 exact ⟨b :: F,l,some ⟨b,o,none⟩,cap,F,xs,rfl,h1,h2,hC,.inr ⟨b,o,rfl,rfl,hR,hb⟩⟩
theorem znW {α:Type} [Rep α]:zkR P t α 0:=by intro H enc w spare held cs y h;simp [DataW.trod] at h
theorem zh1 {e:TypeId} {α:Type} [Rep α] (ht:P.underlying t=some (.slice e)) (hc:P.cellsOf e=Rep.size α) (he:∀ n,zkR P e α n):∀ n,zkR P t (List α) n
 | 0=>znW
 | n+1=>zl0 ht hc (he n)
theorem zl1 {e:TypeId} {α:Type} [Rep α] {H:Type} {enc:TypeId×Value→H} {w W:World} {r:Reach} {b0:Nat} {spare:Nat→Bool} {held:Bool} {v:Value} {d:DataW H} {p:List MemPlace} (ht:P.underlying t=some (.slice e)) (hr:∀ n,zkR P t (List α) n) (hv:Value.okWide P W r b0 t v)
   (h:DataW.Trod enc P w 0 spare held t v d p):∃ x:List α,Is w v x:=by
 obtain ⟨a,len,cap,rfl⟩:=WideShapes.okWide_slice ht hv
 obtain ⟨n,hn⟩:=h
 obtain ⟨F,x,hx⟩:=hr n H enc w spare held _ _ hn
 exact ⟨x,F,_,hx,rfl⟩
end
end Go.Sh
