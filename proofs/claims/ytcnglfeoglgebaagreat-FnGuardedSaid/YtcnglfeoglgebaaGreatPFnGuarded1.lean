/-
  Parts of the proof, put together by program.
-/
import Derived.Calls
import Derived.Orders
import Derived.Below
import Derived.Laws.Sem
import Derived.Test.YtcnglfeoglgebaaGreatProg
import Derived.KernelRfl
import Derived.Deep.MidRow
import Derived.Laws.OwnMore
import Derived.Laws.Slices
import Derived.Laws.Entries
import Derived.Laws.Strings
import Derived.Laws.BitsLemmas
import Derived.Laws.Cover3
import Derived.IntWalk
import Derived.Laws.StructEq
import GoSem.ClaimChange
import Derived.ChangeArms
import Derived.WideShapes
import Derived.Laws.Tables
import Derived.Shelf.SlSortCmp.NoneTotal
import Derived.Ground.SlsfProg
import Derived.Shelf.SlSortCmp.InsertionK
import Derived.Laws.BytesArg
import Derived.Test.YtcnglfeoglgebaaGreatRows
import Derived.ProofKit
import Derived.JoinedOf
import Derived.OpenShut
import Derived.ShutString
import Derived.ChangeOld
set_option linter.unusedVariables false
set_option linter.unusedSimpArgs false
set_option linter.unusedSectionVars false
namespace Go.Sh
open Go.RowKit (Below)
abbrev Env:=Nat→Value
abbrev Ext (w w':World):Prop:=Below w.heap.size w w'
theorem Ext.refl (w:World):Ext w w:=Below.refl _ _
theorem Ext.trans {a b c:World} (h:Ext a b) (k:Ext b c):Ext a c:=Below.trans h (Below.mono k h.size)
def ev (s:Env):Operand→Value
 | .tmp t=>s t
 | .const v=>v
 | .global g=>.pointer (some ⟨g,0,none⟩)
 | .func f=>.func (.func f) #[] #[]
def upd (s:Env) (d:Nat) (v:Value):Env:=fun t=>bif Nat.beq t d then v else s t
def put (s:Env) (d:Option Nat) (v:Value):Env:=match d with | some d=>upd s d v | none=>s
def nth {α:Type}:List α→Nat→Option α
 | [],_=>none
 | x :: _,0=>some x
 | _ :: l,n+1=>nth l n
def zrR (l:List Value) (t:Nat):Value:=match nth l t with | some v=>v | none=>undef
def zaN (m t:Nat):Bool:=Nat.beq (Nat.land 1 (Nat.shiftRight m t)) 1
def mix (m:Nat) (s u:Env):Env:=fun t=>bif zaN m t then u t else s t
def BR (v:Value) (kt kf:Prop):Prop:=match v with | .bool true=>kt | .bool false=>kf | _=>False
def GBR (v:Value) (kt kf ks:Prop):Prop:=match v with | .bool true=>kt | .bool false=>kf | .tuple a=>(bif Nat.beq a.size 0 then ks else False) | _=>False
inductive RD (P:Program) (m:Sem Value) (w:World) (K:Value→Prop):Prop
 | mk (v:Value) (h:∀ w',Ext w w'→m.run P w'=.ok v w') (k:K v):RD P m w K
structure ExtX (X:Nat→Prop) (w w':World):Prop where
 os:w'.os=w.os
 tape:w'.tape=w.tape
 output:w'.output=w.output
 size:w.heap.size≤w'.heap.size
 block:∀ b,b<w.heap.size→¬X b→w'.heap[b]?=w.heap[b]?
structure Xt where
 l:List Nat
 X:Option (Nat→Prop)
def Xt.rel (x:Xt) (w w':World):Prop:=match x.X with | none=>Ext w w' | some X=>ExtX X w w'
inductive RDX (P:Program) (X:Nat→Prop) (m:Sem Value) (w:World) (K:Value→Prop):Prop
 | mk (v:Value) (h:∀ w',ExtX X w w'→m.run P w'=.ok v w') (k:K v):RDX P X m w K
inductive OP (P:Program) (m:Sem Value) (w:World) (K:Value→World→Prop):Prop
 | mk (v:Value) (w':World) (h:m.run P w=.ok v w') (k:K v w'):OP P m w K
inductive OPU (P:Program) (m:Sem Unit) (w:World) (K:World→Prop):Prop
 | mk (w':World) (h:m.run P w=.ok () w') (k:K w'):OPU P m w K
inductive CALL (P:Program) (f:FuncId) (args:List Value) (w:World) (K:Value→World→Prop):Prop
 | mk (h:Calls P f args.toArray w fun e w'=>∃ v,e=.returned v∧K v w'):CALL P f args w K
inductive OPN (P:Program) (m:Sem Next) (w:World) (K:Value→World→Prop):Prop
 | value (v:Value) (w':World) (h:m.run P w=.ok (.value v) w') (k:K v w'):OPN P m w K
 | skip (w':World) (h:m.run P w=.ok .skip w') (k:K undef w'):OPN P m w K
 | enter (f:FuncId) (args:Array Value) (w':World) (h:m.run P w=.ok (.enter f args) w') (k:Calls P f args w' fun e w''=>∃ v,e=.returned v∧K v w''):OPN P m w K
 | row (r:String) (args:Array Value) (w':World) (h:m.run P w=.ok (.row r args) w') (k:Go.Rows P r args w' K):OPN P m w K
def zms:Value→Bool
 | .pointer (some _)=>true
 | .iface _ _=>true
 | .func (.func _) _ _=>true
 | _=>false
inductive NIL (v:Value) (k:Prop):Prop
 | mk (h:zms v=true) (hk:k):NIL v k
inductive LOOPI (L:List Nat) (init:List Value) (w:World) (body:Env→World→(List Value→World→Prop)→Prop):Prop
 | mk (I:Nat→List Value→World→Prop) (m:Nat) (h0:I m init w)
     (hr:∀ m u w',I m (L.map u) w'→body u w' (fun us w''=>∃ m',m'<m∧I m' us w'')):LOOPI L init w body
inductive JOIN (L:List Nat) (body:(List Value→World→Prop)→Prop) (rest:Env→World→Prop):Prop
 | mk (J:List Value→World→Prop) (hb:body J) (hr:∀ u w',J (L.map u) w'→rest u w'):JOIN L body rest
def isC:Operand→Operand
 | .const _=>.const undef
 | _=>.tmp 0
def bin (op:BinOp) (t:TypeId) (x y:Operand) (a b:Value):Sem Value:=do eqGuard op t x y a b;binOp op t a b
def zdJ (f:Value) (args:List Value):Sem Next:=do let d ←Deferred.ofValue f args.toArray;invoke d.target d.args
def zrc (r:Value) (m:String) (args:List Value):Sem Next:=invoke (.fn (.method m) #[]) (#[r]++args.toArray)
def prs (s:Operand→Value):List (Nat×Operand)→List (Nat×Value)
 | []=>[]
 | (i,x) :: r=>(i,s x) :: prs s r
structure Cfg where
 ext:List Nat
 joins:List (Nat×Nat×List Nat)
 loops:List (Nat×Nat×List Nat)
 draws:List (Nat×List Nat×Nat)
 pars:List (Nat×Nat×Nat):=[]
 xs:List Nat:=[]
 gpars:List (Nat×Nat):=[]
def find {α:Type}:List (Nat×α)→Nat→Option α
 | [],_=>none
 | (k,a) :: r,n=>bif Nat.beq k n then some a else find r n
def zev (o:Oper) (ρ:Operand→Value):Option (Sem Value):=
 match o.op with
 | .build t ps=>some (Instr.build t (prs ρ ps.toList).toArray)
 | .load t a=>some (Instr.loadAt t (ρ a))
 | .binOp op t x y _=>some (bin op t (isC x) (isC y) (ρ x) (ρ y))
 | .unOp op _ x=>some (Op.unary op (ρ x))
 | .convert a b x=>some (convert a b (ρ x))
 | .makeInterface t x=>some (Instr.makeInterface t (ρ x))
 | .makeFunc fn first captured=>some (Instr.makeFunc fn (first.toList.map ρ).toArray (captured.toList.map ρ).toArray)
 | .slice t x lo hi mx=>some (Instr.sliceAt t (ρ x) (lo.map ρ) (hi.map ρ) (mx.map ρ))
 | .fieldAddr t x f=>some (Instr.fieldAt t (ρ x) f)
 | .field t x f=>some (Instr.field t (ρ x) f)
 | .indexAddr t x i=>some (Instr.indexAt t (ρ x) (ρ i))
 | .index t x i=>some (Instr.index t (ρ x) (ρ i))
 | .lookup t m k ok=>some (Instr.lookup t (ρ m) (ρ k) ok)
 | .extract t i=>some (Instr.extract (ρ t) i)
 | .typeAssert x t u ok=>some (Instr.typeAssert (ρ x) t u ok)
 | .call { callee:=.builtin .len,args,argTypes }=>some (Builtin.len_ argTypes o.type (args.toList.map ρ).toArray)
 | .call { callee:=.builtin .cap,args,argTypes }=>some (Builtin.cap_ argTypes o.type (args.toList.map ρ).toArray)
 | .call { callee:=.builtin .min,args,argTypes }=>some (Builtin.min_ argTypes o.type (args.toList.map ρ).toArray)
 | .call { callee:=.builtin .max,args,argTypes }=>some (Builtin.max_ argTypes o.type (args.toList.map ρ).toArray)
 | _=>none
def opK (P:Program) (ext:Xt) (o:Oper) (ρ:Operand→Value) (w:World) (K:Value→World→Prop):Prop:=
 match o.op with
 | .move x=>K (ρ x) w
 | .assign x=>K (ρ x) w
 | .pick c a b=>BR (ρ c) (K (ρ a) w) (K (ρ b) w)
 | .nilCheck x=>NIL (ρ x) (K (ρ x) w)
 | .alloc e=>OP P (Instr.alloc e true (.tuple #[])) w K
 | .box e x=>OP P (Instr.box e (ρ x)) w K
 | .buildSlice t n ps=>OP P (Instr.buildSlice t n (prs ρ ps.toList).toArray) w K
 | .store t a x=>OPU P (Instr.storeAt t (ρ a) (ρ x)) w (K undef)
 | .makeMap t r=>OP P (Instr.makeMap t (r.map ρ)) w K
 | .makeSlice t l c=>OP P (Instr.makeSlice t (ρ l) (ρ c)) w K
 | .mapUpdate t m k x=>OPU P (Instr.mapUpdate t (ρ m) (ρ k) (ρ x)) w (K undef)
 | .insert t m k x=>OPU P (Instr.mapUpdate t (ρ m) (ρ k) (ρ x)) w (K undef)
 | .mapEntry t m k=>OP P (Instr.mapEntry t (ρ m) (ρ k)) w K
 | .entryStore t m k x=>OPU P (Instr.entryStore t (ρ m) (ρ k) (ρ x)) w (K undef)
 | .range t x=>OP P (Instr.range t (ρ x)) w K
 | .next it b=>OP P (Instr.next (ρ it) b o.type) w K
 | .entry it=>OP P (Instr.entry (ρ it)) w K
 | .call { callee:=.value (.func f),args,.. }=>bif ext.l.elem f then OPN P (callFunc f (args.toList.map ρ).toArray) w K else CALL P f (args.toList.map ρ) w K
 | .call { callee:=.value x,args,.. }=>OPN P (zdJ (ρ x) (args.toList.map ρ)) w K
 | .call { callee:=.invoke r m,args,.. }=>OPN P (zrc (ρ r) m (args.toList.map ρ)) w K
 | .call { callee:=.builtin .append,args,argTypes }=>OP P (Builtin.append_ argTypes o.type (args.toList.map ρ).toArray) w K
 | .call { callee:=.builtin .copy,args,argTypes }=>OP P (Builtin.copy_ argTypes o.type (args.toList.map ρ).toArray) w K
 | .call { callee:=.builtin .delete,args,argTypes }=>OP P (Builtin.delete_ argTypes o.type (args.toList.map ρ).toArray) w K
 | .call { callee:=.builtin .clear,args,argTypes }=>OP P (Builtin.clear_ argTypes o.type (args.toList.map ρ).toArray) w K
 | _=>match zev o ρ with
   | some m=>(match ext.X with | none=>RD P m w (fun v=>K v w) | some X=>RDX P X m w (fun v=>K v w))
   | none=>False
def opF (P:Program) (ext:Xt) (o:Oper) (flag:Bool) (s:Env) (w:World) (K:Env→World→Prop):Prop:=
 opK P ext o (ev s) w (fun v w'=>bif flag then (match ext.X with | none=>Ext w w' | some X=>ExtX X w w')∧K (put s o.dst v) w' else K (put s o.dst v) w')
def zdL (P:Program) (ext:Xt) (ol:List Oper) (fl:Nat) (i:Nat) (s:Env) (w:World) (K:Env→World→Prop):Prop:=
 match nth ol i with
 | none=>False
 | some o=>
   match o.guard with
   | none=>opF P ext o (zaN fl i) s w K
   | some (j,want)=>
     match (nth ol j).bind (·.dst) with
     | none=>False
     | some d=>match (nth ol j).bind (·.guard) with
       | none=>BR (s d)
         (bif want then opF P ext o (zaN fl i) (upd s d (.bool true)) w K else K (put (upd s d (.bool true)) o.dst undef) w)
         (bif want then K (put (upd s d (.bool false)) o.dst undef) w else opF P ext o (zaN fl i) (upd s d (.bool false)) w K)
       | some _=>GBR (s d)
         (bif want then opF P ext o (zaN fl i) (upd s d (.bool true)) w K else K (put (upd s d (.bool true)) o.dst undef) w)
         (bif want then K (put (upd s d (.bool false)) o.dst undef) w else opF P ext o (zaN fl i) (upd s d (.bool false)) w K)
         (K (put (upd s d undef) o.dst undef) w)
def zeM (P:Program) (ext:Xt) (ol:List Oper) (fl:Nat) (K:Env→World→Prop):List Nat→Env→World→Prop
 | [],s,w=>K s w
 | i :: r,s,w=>zdL P ext ol fl i s w (zeM P ext ol fl K r)
def zau (l:List Nat) (lo hi:Nat) (T:Nat→Nat×Nat):Prop:=(∀ i∈l,lo≤(T i).1∧(T i).1≤(T i).2∧(T i).2≤hi)∧∀ i∈l,∀ j∈l,i≠j→(T i).2≤(T j).1∨(T j).2≤(T i).1
def za3 (T:Nat→Nat×Nat) (d:Nat) (x:Nat×Nat):Nat→Nat×Nat:=fun t=>bif Nat.beq t d then x else T t
def zjI {α:Type} (l:List (List α)) (i:Nat):List α:=match nth l i with | some x=>x | none=>[]
abbrev ParQ:=Nat→Env→(Nat→Nat×Nat)→World→Prop
inductive PAR (w:World) (deps:List (List (Nat×Nat))) (steps fin:ParQ→Prop):Prop
 | mk (Q:ParQ) (st:∀ i u u' T T' w1 w2,Ext w w1→Ext w1 w2→(∀ p∈zjI deps i,u' p.2=u p.2∧T' p.1=T p.1)→Q i u T w1→Q i u' T' w2) (h1:steps Q) (h2:fin Q):PAR w deps steps fin
def zg7 (ol:List Oper) (j:Nat):Nat:=match (nth ol j).bind (·.dst) with | some d=>d | none=>0
def onL:List Edge→List Nat
 | []=>[]
 | e :: r=>bif Region.binds .any e then e.on :: onL r else onL r
def onD (ol:List Oper):List Edge→List (Nat×Nat)
 | []=>[]
 | e :: r=>bif Region.binds .any e then (e.on,zg7 ol e.on) :: onD ol r else onD ol r
def zeN (ol:List Oper):Nat→List Oper→List (List (Nat×Nat))
 | _,[]=>[]
 | i,o :: r=>((i,zg7 ol i) :: onD ol o.after.toList) :: zeN ol (i+1) r
def zfK (Q:ParQ) (u:Env) (T:Nat→Nat×Nat) (w:World):List Edge→Prop
 | []=>True
 | e :: r=>bif Region.binds .any e then Q e.on u T w∧zfK Q u T w r else zfK Q u T w r
def zd2 (P:Program) (ext:Xt) (ol:List Oper) (m:Nat) (s:Env) (w:World) (Q:ParQ):Nat→List Oper→Prop
 | _,[]=>True
 | i,o :: r=>(∀ (u:Env) (T:Nat→Nat×Nat) (w1:World),Ext w w1→zau (onL o.after.toList) w.heap.size w1.heap.size T→zfK Q u T w1 o.after.toList →
     opK P ext o (ev (mix m s u)) w1 (fun v w2=>Ext w1 w2∧Q i (upd u (zg7 ol i) v) (za3 T i (w1.heap.size,w2.heap.size)) w2))∧zd2 P ext ol m s w Q (i+1) r
def zf9 (Q:ParQ) (u:Env) (T:Nat→Nat×Nat) (w:World):Nat→Nat→Prop
 | _,0=>True
 | i,n+1=>Q i u T w∧zf9 Q u T w (i+1) n
def zso (P:Program) (ext:Xt) (ol:List Oper) (m p:Nat) (s:Env) (w:World) (K:Env→World→Prop):Prop:=
 PAR w (zeN ol 0 (ol.take p)) (fun Q=>zd2 P ext ol m s w Q 0 (ol.take p))
   (fun Q=>∀ (u:Env) (T:Nat→Nat×Nat) (w1:World),Ext w w1→zau (List.range p) w.heap.size w1.heap.size T→zf9 Q u T w1 0 p→zeM P ext ol 0 K ((List.range ol.length).drop p) (mix m s u) w1)
inductive GPAR (w:World) (deps:List (List (Nat×Nat))) (steps:(World→Prop)→(Nat→World→World→Prop)→ParQ→Prop) (fin:(World→Prop)→ParQ→Prop):Prop
 | mk (B:World→Prop) (R:Nat→World→World→Prop) (Q:ParQ) (hb:B w) (bs:∀ j w1 w2,B w1→R j w1 w2→B w2) (sz:∀ j w1 w2,R j w1 w2→w1.heap.size≤w2.heap.size)
     (st:∀ i j u u' T T' w1 w2,i≠j→B w1→R j w1 w2→(∀ p∈zjI deps i,u' p.2=u p.2∧T' p.1=T p.1)→Q i u T w1→Q i u' T' w2) (h1:steps B R Q) (h2:fin B Q):GPAR w deps steps fin
def zkG (ol:List Oper) (j:Nat):List (Nat×Nat):=match (nth ol j).bind (·.dst) with | some d=>[(j,d)] | none=>[]
def zq1 (ol:List Oper):List Edge→List (Nat×Nat)
 | []=>[]
 | e :: r=>bif Region.binds .any e then zkG ol e.on++zq1 ol r else zq1 ol r
def ziB (ol:List Oper):Nat→List Oper→List (List (Nat×Nat))
 | _,[]=>[]
 | i,o :: r=>(zkG ol i++zq1 ol o.after.toList) :: ziB ol (i+1) r
def zdM (P:Program) (ext:Xt) (m:Nat) (s:Env) (w:World) (B:World→Prop) (R:Nat→World→World→Prop) (Q:ParQ):Nat→List Oper→Prop
 | _,[]=>True
 | i,o :: r=>(∀ (u:Env) (T:Nat→Nat×Nat) (w1:World),B w1→w.heap.size≤w1.heap.size→zau (onL o.after.toList) w.heap.size w1.heap.size T→zfK Q u T w1 o.after.toList →
     opK P ext o (ev (mix m s u)) w1 (fun v w2=>R i w1 w2∧Q i (put u o.dst v) (za3 T i (w1.heap.size,w2.heap.size)) w2))∧zdM P ext m s w B R Q (i+1) r
def zrS (P:Program) (ext:Xt) (ol:List Oper) (m:Nat) (s:Env) (w:World) (K:Env→World→Prop):Prop:=
 GPAR w (ziB ol 0 ol) (fun B R Q=>zdM P ext m s w B R Q 0 ol)
   (fun B Q=>∀ (u:Env) (T:Nat→Nat×Nat) (w1:World),B w1→w.heap.size≤w1.heap.size→zau (List.range ol.length) w.heap.size w1.heap.size T→zf9 Q u T w1 0 ol.length→K (mix m s u) w1)
inductive XR (body:(Nat→Prop)→Prop):Prop
 | mk (X:Nat→Prop) (h:body X):XR body
def lit (s:Env) (c:Operand) (b:Bool):Env:=match c with | .tmp t=>upd s t (.bool b) | _=>s
def za7:Code→Option Nat
 | .region id _ _=>some id
 | .seq a b=>match za7 a with | some i=>some i | none=>za7 b
 | .block _ c=>za7 c
 | .loop c=>za7 c
 | _=>none
def zp1 (K:Exit→Env→World→Prop) (N:Env→World→Prop):Exit→Env→World→Prop
 | .normal,s,w=>N s w
 | e,s,w=>K e s w
def zpr (id:Nat) (K:Exit→Env→World→Prop):Exit→Env→World→Prop
 | .exit j,s,w=>bif Nat.beq j id then K .normal s w else K (.exit j) s w
 | e,s,w=>K e s w
def World.drew1 (w:World):World:={ w with drawn:=w.drawn+1 }
def vc (P:Program) (g:Cfg):Code→Env→World→(Exit→Env→World→Prop)→Prop
 | .skip,s,w,K=>K .normal s w
 | .region _ ops false,s,w,K=>zeM P ⟨g.ext,none⟩ ops.toList 0 (K .normal) (List.range ops.size) s w
 | .region id ops true,s,w,K=>
   match find g.gpars id with
   | some m=>zrS P ⟨g.ext,none⟩ ops.toList m s (World.drew1 w) (K .normal)
   | none=>
   match find g.pars id with
   | some (m,p)=>zso P ⟨g.ext,none⟩ ops.toList m p s (World.drew1 w) (K .normal)
   | none=>
     match find g.draws id with
     | some (l,fl)=>bif g.xs.elem id then XR (fun X=>zeM P ⟨g.ext,some X⟩ ops.toList fl (K .normal) l s (World.drew1 w)) else zeM P ⟨g.ext,none⟩ ops.toList fl (K .normal) l s (World.drew1 w)
     | none=>False
 | .seq a b,s,w,K=>
   match (za7 b).bind (find g.joins) with
   | some (m,L)=>JOIN L (fun J=>vc P g a s w (zp1 K fun s' w'=>J (L.map s') w')) (fun u w'=>vc P g b (mix m s u) w' K)
   | none=>vc P g a s w (zp1 K fun s' w'=>vc P g b s' w' K)
 | .cond c x y,s,w,K=>BR (ev s c) (vc P g x (lit s c true) w K) (vc P g y (lit s c false) w K)
 | .block id c,s,w,K=>vc P g c s w (zpr id K)
 | .loop c,s,w,K=>
   match (za7 c).bind (find g.loops) with
   | some (m,L)=>LOOPI L (L.map s) w fun u w' next=>vc P g c (mix m s u) w' (zp1 K fun s' w''=>next (L.map s') w'')
   | none=>False
 | .exit id,s,w,K=>K (.exit id) s w
 | .ret,s,w,K=>K .ret s w
 | _,_,_,_=>False
def zbG (t:TypeId) (v:Value):Sem Value:=do loadVar t (←asAddr v)
def zq2 (P:Program) (s:Env) (w:World):List ResultVar→(List Value→Prop)→Prop
 | [],k=>k []
 | .tmp t :: r,k=>zq2 P s w r fun vs=>k (s t :: vs)
 | .cell a t :: r,k=>RD P (zbG t (s a)) w fun v=>zq2 P s w r fun vs=>k (v :: vs)
def one:List Value→Value
 | [v]=>v
 | vs=>.tuple vs.toArray
def zsp (P:Program) (rs:List ResultVar) (R:Value→World→Prop):Exit→Env→World→Prop
 | .normal,s,w=>zq2 P s w rs fun vs=>R (one vs) w
 | .ret,s,w=>zq2 P s w rs fun vs=>R (one vs) w
 | _,_,_=>False
def vcF (P:Program) (g:Cfg) (fn:Func) (args:List Value) (w:World) (R:Value→World→Prop):Prop:=
 match fn.body with
 | some c=>vc P g c (zrR args) w (zsp P fn.results.toList R)
 | none=>False
end Go.Sh
namespace Go.Sh
open Go.RowKit (Below)
def zaH (a:Act):Env:=fun t=>a.tmps.getD t undef
theorem zkH (a:Act):ev (zaH a)=a.eval:=by funext x;cases x<;>rfl
theorem zeo {α:Type} (l:List α) (i:Nat):nth l i=l[i]?:=by
 induction l generalizing i with
 | nil=>cases i<;>rfl
 | cons x l ih=>cases i<;>simp [nth,ih]
theorem zbH {α:Type} (l:Array α) (i:Nat):nth l.toList i=l[i]?:=by rw [zeo];simp
theorem zd3 (s:Env) (d:Nat) (v:Value):upd s d v d=v:=by simp [upd]
theorem zbc (s:Env) {d t:Nat} (v:Value) (h:t≠d):upd s d v t=s t:=by
 have:Nat.beq t d=false:=by rw [Bool.eq_false_iff];exact fun e=>h (Nat.eq_of_beq_eq_true e)
 simp [upd,this]
theorem zdl {s:Env} {d:Nat} {v:Value} (h:s d=v):upd s d v=s:=by
 funext t
 by_cases e:t=d
 · subst e;rw [zd3,h]
 rw [zbc _ _ e]
theorem zon (s:Env) {d e:Nat} (v u:Value) (h:d≠e):upd (upd s d v) e u=upd (upd s e u) d v:=by
 funext t
 by_cases h1:t=d
 · subst h1;rw [zd3,zbc _ _ h,zd3]
 by_cases h2:t=e
 · subst h2;rw [zd3,zbc _ _ h1,zd3]
 rw [zbc _ _ h2,zbc _ _ h1,zbc _ _ h1,zbc _ _ h2]
theorem zoo (s:Env) {x y:Option Nat} (v u:Value) (h:∀ d,x=some d→y≠some d):put (put s x v) y u=put (put s y u) x v:=by
 cases x with
 | none=>rfl
 | some d=>
   cases y with
   | none=>rfl
   | some e=>exact zon s v u (fun he=>h d rfl (he▸rfl))
theorem zmt {s:Env} {x:Option Nat} {v:Value} {t:Nat} (h:∀ d,x=some d→t≠d):put s x v t=s t:=by
 cases x with
 | none=>rfl
 | some d=>exact zbc _ _ (h d rfl)
theorem zmu {a:Act} {d:Option Nat} {v:Value} (h:∀ t,d=some t→t<a.tmps.size):zaH (a.put d v)=put (zaH a) d v:=by
 cases d with
 | none=>rfl
 | some d=>
   funext t
   have hd:=h d rfl
   by_cases e:t=d
   · subst e;simp [zaH,Act.put,put,zd3,hd]
   simp only [put]
   rw [zbc _ _ e]
   simp [zaH,Act.put,Array.getElem?_setIfInBounds_ne (Ne.symm e)]
theorem zop (a:Act) (d:Option Nat) (v:Value):(a.put d v).tmps.size=a.tmps.size:=by cases d<;>simp [Act.put]
theorem zp2 (a:Act) (d:Option Nat) (v:Value):(a.put d v).defers=a.defers:=by cases d<;>rfl
theorem zc4 (m t:Nat):zaN m t=m.testBit t:=by
 unfold zaN Nat.testBit
 show Nat.beq (1 &&& (m >>> t)) 1=(1 &&& (m >>> t) != 0)
 have h:(1 &&& (m >>> t))=(m >>> t)%2:=by rw [Nat.and_comm];exact Nat.and_one_is_mod _
 rw [h]
 rcases Nat.mod_two_eq_zero_or_one (m >>> t) with h2 | h2<;>rw [h2]<;>rfl
theorem ziC (v:Value) (kt kf:Prop):BR v kt kf↔∃ b,v=.bool b∧(if b then kt else kf):=by
 constructor
 · intro h
   cases v with
   | bool b=>exact ⟨b,rfl,by cases b<;>exact h⟩
   | _=>exact h.elim
 rintro ⟨b,rfl,h⟩
 cases b<;>exact h
theorem zps (ρ:Operand→Value) (ps:Array (Nat×Operand)):(prs ρ ps.toList).toArray=ps.map fun (i,x)=>(i,ρ x):=by
 have:∀ l:List (Nat×Operand),prs ρ l=l.map fun (i,x)=>(i,ρ x):=by
   intro l
   induction l with
   | nil=>rfl
   | cons p l ih=>obtain ⟨i,x⟩:=p;simp [prs,ih]
 rw [this]
 apply Array.ext'
 simp
theorem zce (ρ:Operand→Value) (xs:Array Operand):(xs.toList.map ρ).toArray=xs.map ρ:=by
 apply Array.ext'
 simp
theorem zjJ (op:BinOp) (t:TypeId) (x y:Operand) (a b:Value):eqGuard op t (isC x) (isC y) a b=eqGuard op t x y a b:=by
 cases x<;>cases y<;>rfl
theorem zp3 {P:Program} {m:Sem Value} {w w':World} {v:Value} (h:m.run P w=.ok v w'):(do pure (Next.value (←m)):Sem Next).run P w=.ok (.value v) w':=by
 simp [h]
theorem zrT {P:Program} {m:Sem Unit} {w w':World} (h:m.run P w=.ok () w'):(do m;pure Next.skip:Sem Next).run P w=.ok .skip w':=by
 simp [h]
theorem zlE {P:Program} {o:Oper} {ρ:Operand→Value} {m:Sem Value} {w w':World} {v:Value} (hm:zev o ρ=some m) (h:m.run P w=.ok v w') :
   (execOp ρ o).run P w=.ok (.value v) w':=by
 obtain ⟨dst,op,type,pos,after,guard⟩:=o
 cases op<;>simp only [zev] at hm
 case call c=>
   obtain ⟨callee,args,argTypes⟩:=c
   cases callee with
   | value f=>simp at hm
   | invoke r m=>simp at hm
   | builtin b=>
     cases b<;>simp only [Option.some.injEq,reduceCtorEq] at hm<;>subst hm<;>rw [zce] at h <;>
       simp only [execOp,resolve,invoke,builtin,Sem.run_bind,Sem.run_pure,Result.andThen_ok]<;>simp [h]
 all_goals first
   | (simp at hm;done)
   | (simp only [Option.some.injEq] at hm;subst hm;exact zp3 h)
   | (simp only [Option.some.injEq] at hm;subst hm;simp only [zps,zce,zjJ,bin] at h;exact zp3 h)
def zcC (P:Program) (f:Nat):Bool:=
 match P.funcs[f]? with
 | some fn=>!(fn.name == "runtime.NumGoroutine")&&fn.body.isSome
 | none=>false
theorem ExtX.refl (X:Nat→Prop) (w:World):ExtX X w w:=⟨rfl,rfl,rfl,Nat.le_refl _,fun _ _ _=>rfl⟩
theorem ExtX.trans {X:Nat→Prop} {a b c:World} (h:ExtX X a b) (k:ExtX X b c):ExtX X a c:=
 ⟨k.os.trans h.os,k.tape.trans h.tape,k.output.trans h.output,Nat.le_trans h.size k.size,fun i hi hX=>(k.block i (Nat.lt_of_lt_of_le hi h.size) hX).trans (h.block i hi hX)⟩
theorem Xt.rel_refl (x:Xt) (w:World):x.rel w w:=by
 unfold Xt.rel
 split
 · exact Ext.refl w
 exact ExtX.refl _ w
theorem Xt.rel_trans (x:Xt) {a b c:World} (h:x.rel a b) (k:x.rel b c):x.rel a c:=by
 unfold Xt.rel at *
 split at h
 · rename_i hX;simp only [hX] at k ⊢;exact Ext.trans h k
 rename_i X hX;simp only [hX] at k ⊢;exact ExtX.trans h k
theorem RDr_iff {P:Program} {x:Xt} {m:Sem Value} {w:World} {K:Value→Prop}:(match x.X with | none=>RD P m w K | some X=>RDX P X m w K)↔∃ v,(∀ w',x.rel w w'→m.run P w'=.ok v w')∧K v:=by
 unfold Xt.rel
 cases x.X with
 | none=>exact ⟨fun ⟨v,h,k⟩=>⟨v,h,k⟩,fun ⟨v,h,k⟩=>⟨v,h,k⟩⟩
 | some X=>exact ⟨fun ⟨v,h,k⟩=>⟨v,h,k⟩,fun ⟨v,h,k⟩=>⟨v,h,k⟩⟩
def zkI (ext:List Nat) (N:Nat) (o:Oper):Bool:=
 match o.op with
 | .call { callee:=.value (.func f),.. }=>ext.elem f || Nat.blt f N
 | _=>true
theorem zdN {P:Program} {f:Nat} (h:zcC P f=true) (args:Array Value) (w:World):(callFunc f args).run P w=.ok (.enter f args) w:=by
 unfold zcC at h
 cases hf:P.funcs[f]? with
 | none=>simp [hf] at h
 | some fn=>
   simp only [hf,Bool.and_eq_true,Bool.not_eq_true'] at h
   have hn:¬fn.name = "runtime.NumGoroutine" := by simpa using h.1
   have hb:¬fn.body=none:=by intro hb;simp [hb] at h
   unfold callFunc
   simp [program,Sem.run,hf,hn,hb]
section
variable {P:Program} {ext:Xt} {N:Nat} (hE:∀ f,f<N→ext.l.elem f=false→zcC P f=true)
theorem zhd {o:Oper} {a:Act} {K:Value→World→Prop} {Q:Exit→Act→World→Prop} {f:FuncId} {args:Array Value} {w:World}
   (h:Calls P f args w fun e w'=>∃ v,e=.returned v∧K v w') :
   o.upon P a (fun a' w'=>∃ v,a'=a.put o.dst v∧K v w') Q (.ok (.enter f args) w):=by
 rw [Oper.upon_enter]
 exact h.mono fun e w' ⟨v,he,hk⟩=>by subst he;exact ⟨v,rfl,hk⟩
theorem zeO {o:Oper} {a:Act} {K:Value→World→Prop} {Q:Exit→Act→World→Prop} {m:Sem Next} {w:World} (h:OPN P m w K) :
   o.upon P a (fun a' w'=>∃ v,a'=a.put o.dst v∧K v w') Q (m.run P w):=by
 cases h with
 | value v w' hr k=>rw [hr];exact ⟨v,rfl,k⟩
 | skip w' hr k=>rw [hr];exact ⟨undef,rfl,k⟩
 | enter f args w' hr k=>rw [hr];exact zhd k
 | row r args w' hr k=>rw [hr,Oper.upon_row];exact k.mono fun v w'' hk=>⟨v,rfl,hk⟩
include hE in
theorem zmv {o:Oper} {a:Act} {w:World} {K:Value→World→Prop} {Q:Exit→Act→World→Prop} (hc:zkI ext.l N o=true)
   (h:opK P ext o a.eval w K):o.wp P a w (fun a' w'=>∃ v,a'=a.put o.dst v∧K v w') Q:=by
 unfold Oper.wp
 obtain ⟨dst,op,type,pos,after,guard⟩:=o
 have rd:∀ {m:Sem Value},zev ⟨dst,op,type,pos,after,guard⟩ a.eval=some m→(match ext.X with | none=>RD P m w (fun v=>K v w) | some X=>RDX P X m w (fun v=>K v w)) →
     (Oper.mk dst op type pos after guard).upon P a (fun a' w'=>∃ v,a'=a.put dst v∧K v w') Q ((execOp a.eval ⟨dst,op,type,pos,after,guard⟩).run P w):=by
   intro m hm hr
   obtain ⟨v,hv,k⟩:=RDr_iff.1 hr
   rw [zlE hm (hv w (ext.rel_refl w))]
   exact ⟨v,rfl,k⟩
 have val:∀ {m:Sem Value},OP P m w K→(execOp a.eval ⟨dst,op,type,pos,after,guard⟩=(do pure (Next.value (←m)):Sem Next)) →
     (Oper.mk dst op type pos after guard).upon P a (fun a' w'=>∃ v,a'=a.put dst v∧K v w') Q ((execOp a.eval ⟨dst,op,type,pos,after,guard⟩).run P w):=by
   intro m ho he
   obtain ⟨v,w',hr,k⟩:=ho
   rw [he,zp3 hr]
   exact ⟨v,rfl,k⟩
 have uni:∀ {m:Sem Unit},OPU P m w (K undef)→(execOp a.eval ⟨dst,op,type,pos,after,guard⟩=(do m;pure Next.skip:Sem Next)) →
     (Oper.mk dst op type pos after guard).upon P a (fun a' w'=>∃ v,a'=a.put dst v∧K v w') Q ((execOp a.eval ⟨dst,op,type,pos,after,guard⟩).run P w):=by
   intro m ho he
   obtain ⟨w',hr,k⟩:=ho
   rw [he,zrT hr]
   exact ⟨undef,rfl,k⟩
 cases op
 case move x=>exact ⟨_,rfl,h⟩
 case assign x=>exact ⟨_,rfl,h⟩
 case pick c x y=>
   simp only [opK,ziC] at h
   obtain ⟨b,hb,h⟩:=h
   simp only [execOp,hb,asBool]
   cases b<;>exact ⟨_,rfl,h⟩
 case nilCheck x=>
   simp only [opK] at h
   obtain ⟨hn,k⟩:=h
   simp only [execOp]
   cases hx:a.eval x with
   | pointer p=>cases p with
     | none=>simp [hx,zms] at hn
     | some p=>exact ⟨_,rfl,hx▸k⟩
   | iface t v=>exact ⟨_,rfl,hx▸k⟩
   | func fn first captured=>cases fn with
     | func f=>exact ⟨_,rfl,hx▸k⟩
     | _=>simp [hx,zms] at hn
   | _=>simp [hx,zms] at hn
 case alloc e=>exact val h rfl
 case box e x=>exact val h rfl
 case buildSlice t n ps=>exact val h (by simp only [execOp,zps])
 case store t x y=>exact uni h rfl
 case makeMap t r=>exact val h rfl
 case makeSlice t l c=>exact val h rfl
 case mapUpdate t m k x=>exact uni h rfl
 case insert t m k x=>exact uni h rfl
 case mapEntry t m k=>exact val h rfl
 case entryStore t m k x=>exact uni h rfl
 case range t x=>exact val h rfl
 case next it b=>exact val h rfl
 case entry it=>exact val h rfl
 case call c=>
   obtain ⟨callee,args,argTypes⟩:=c
   cases callee with
   | value f=>
     cases f with
     | func f=>
       simp only [opK] at h
       have he:(execOp a.eval ⟨dst,.call ⟨.value (.func f),args,argTypes⟩,type,pos,after,guard⟩).run P w=(callFunc f (args.map a.eval)).run P w:=by
         simp [execOp,resolve,Act.eval,Deferred.ofValue,invoke]
       rw [he]
       cases hx:ext.l.elem f with
       | true=>simp only [hx,cond_true,zce] at h;exact zeO h
       | false=>
         simp only [hx,cond_false] at h
         obtain ⟨h⟩:=h
         simp only [zkI,hx,Bool.false_or] at hc
         have hlt:f<N:=Nat.le_of_ble_eq_true hc
         rw [zdN (hE f hlt hx)]
         rw [zce] at h
         exact zhd h
     | tmp t=>
       simp only [opK] at h
       have:=zeO (o:=⟨dst,.call ⟨.value (.tmp t),args,argTypes⟩,type,pos,after,guard⟩) (a:=a) (Q:=Q) h
       simpa [execOp,resolve,zdJ,zce] using this
     | const v=>
       simp only [opK] at h
       have:=zeO (o:=⟨dst,.call ⟨.value (.const v),args,argTypes⟩,type,pos,after,guard⟩) (a:=a) (Q:=Q) h
       simpa [execOp,resolve,zdJ,zce] using this
     | global g=>
       simp only [opK] at h
       have:=zeO (o:=⟨dst,.call ⟨.value (.global g),args,argTypes⟩,type,pos,after,guard⟩) (a:=a) (Q:=Q) h
       simpa [execOp,resolve,zdJ,zce] using this
   | invoke r m=>
     simp only [opK] at h
     have:=zeO (o:=⟨dst,.call ⟨.invoke r m,args,argTypes⟩,type,pos,after,guard⟩) (a:=a) (Q:=Q) h
     simpa [execOp,resolve,zrc,zce] using this
   | builtin b=>
     cases b
     case append=>exact val h (by simp only [execOp,resolve,invoke,builtin,zce,pure_bind])
     case copy=>exact val h (by simp only [execOp,resolve,invoke,builtin,zce,pure_bind])
     case delete=>exact val h (by simp only [execOp,resolve,invoke,builtin,zce,pure_bind])
     case clear=>exact val h (by simp only [execOp,resolve,invoke,builtin,zce,pure_bind])
     case len=>exact rd rfl h
     case cap=>exact rd rfl h
     case min=>exact rd rfl h
     case max=>exact rd rfl h
     all_goals exact (show False from h).elim
 all_goals first | exact (show False from h).elim | exact rd rfl h
end
end Go.Sh
namespace Go.Sh
open Go.RowKit (Below)
theorem zfU {P:Program} {m:Sem Next} {w:World} {K K':Value→World→Prop} (hk:∀ v w',K v w'→K' v w') (h:OPN P m w K):OPN P m w K':=by
 cases h with
 | value v w' hr k=>exact .value v w' hr (hk _ _ k)
 | skip w' hr k=>exact .skip w' hr (hk _ _ k)
 | enter f args w' hr k=>exact .enter f args w' hr (k.mono fun e w'' ⟨v,he,h⟩=>⟨v,he,hk _ _ h⟩)
 | row r args w' hr k=>exact .row r args w' hr (k.mono fun v w'' h=>hk _ _ h)
theorem OP.mono {P:Program} {m:Sem Value} {w:World} {K K':Value→World→Prop} (h:OP P m w K) (hk:∀ v w',K v w'→K' v w'):OP P m w K':=by
 obtain ⟨v,w',hr,k⟩:=h;exact ⟨v,w',hr,hk _ _ k⟩
theorem OPU.mono {P:Program} {m:Sem Unit} {w:World} {K K':World→Prop} (h:OPU P m w K) (hk:∀ w',K w'→K' w'):OPU P m w K':=by
 obtain ⟨w',hr,k⟩:=h;exact ⟨w',hr,hk _ k⟩
theorem RDr.mono {P:Program} {x:Xt} {m:Sem Value} {w:World} {K K':Value→Prop} (h:match x.X with | none=>RD P m w K | some X=>RDX P X m w K) (hk:∀ v,K v→K' v):(match x.X with | none=>RD P m w K' | some X=>RDX P X m w K'):=by
 obtain ⟨v,h1,h2⟩:=RDr_iff.1 h
 exact RDr_iff.2 ⟨v,h1,hk v h2⟩
theorem RD.mono {P:Program} {m:Sem Value} {w:World} {K K':Value→Prop} (h:RD P m w K) (hk:∀ v,K v→K' v):RD P m w K':=by
 obtain ⟨v,hr,k⟩:=h;exact ⟨v,hr,hk _ k⟩
theorem CALL.mono {P:Program} {f:FuncId} {args:List Value} {w:World} {K K':Value→World→Prop} (h:CALL P f args w K) (hk:∀ v w',K v w'→K' v w'):CALL P f args w K':=by
 obtain ⟨h⟩:=h;exact ⟨h.mono fun e w' ⟨v,he,k⟩=>⟨v,he,hk _ _ k⟩⟩
theorem NIL.mono {v:Value} {k k':Prop} (h:NIL v k) (hk:k→k'):NIL v k':=by
 obtain ⟨a,b⟩:=h;exact ⟨a,hk b⟩
theorem BR.mono {v:Value} {a b a' b':Prop} (h:BR v a b) (ha:a→a') (hb:b→b'):BR v a' b':=by
 rw [ziC] at *
 obtain ⟨t,ht,h⟩:=h
 refine ⟨t,ht,?_⟩
 cases t<;>simp at h ⊢
 · exact hb h
 exact ha h
theorem zeP {P:Program} {ext:Xt} {o:Oper} {ρ:Operand→Value} {w:World} {K K':Value→World→Prop} (hk:∀ v w',K v w'→K' v w')
   (h:opK P ext o ρ w K):opK P ext o ρ w K':=by
 obtain ⟨dst,op,type,pos,after,guard⟩:=o
 cases op
 case call c=>
   obtain ⟨callee,args,argTypes⟩:=c
   cases callee with
   | value f=>
     cases f with
     | func f=>
       simp only [opK] at h ⊢
       cases hx:ext.l.elem f<;>simp only [hx,cond_true,cond_false] at h ⊢
       · exact CALL.mono h hk
       exact zfU hk h
     | _=>exact zfU hk h
   | invoke r m=>exact zfU hk h
   | builtin b=>
     cases b
     case append=>exact OP.mono h hk
     case copy=>exact OP.mono h hk
     case delete=>exact OP.mono h hk
     case clear=>exact OP.mono h hk
     case len=>exact RDr.mono h fun v=>hk v _
     case cap=>exact RDr.mono h fun v=>hk v _
     case min=>exact RDr.mono h fun v=>hk v _
     case max=>exact RDr.mono h fun v=>hk v _
     all_goals exact (show False from h).elim
 case move x=>exact hk _ _ h
 case assign x=>exact hk _ _ h
 case pick c x y=>exact BR.mono h (hk _ _) (hk _ _)
 case nilCheck x=>exact NIL.mono h (hk _ _)
 all_goals first
   | exact (show False from h).elim
   | exact OP.mono h hk
   | exact OPU.mono h fun w'=>hk _ w'
   | exact RDr.mono h fun v=>hk v _
theorem zjK {o:Oper} {ρ ρ':Operand→Value} (h:∀ x∈o.op.operands,ρ x=ρ' x):zev o ρ=zev o ρ':=by
 obtain ⟨dst,op,type,pos,after,guard⟩:=o
 have ar:∀ xs:Array Operand,(∀ x∈xs,ρ x=ρ' x)→xs.toList.map ρ=xs.toList.map ρ':=fun xs hx=>List.map_congr_left fun x hm=>hx x (by simpa using hm)
 cases op<;>simp only [Op.operands] at h<;>simp only [zev]
 case build t ps=>
   have:prs ρ ps.toList=prs ρ' ps.toList:=by
     have:∀ l:List (Nat×Operand),(∀ p∈l,ρ p.2=ρ' p.2)→prs ρ l=prs ρ' l:=by
       intro l
       induction l with
       | nil=>intro _;rfl
       | cons p l ih=>intro hl;obtain ⟨i,x⟩:=p;simp only [prs];rw [ih fun p hp=>hl p (by simp [hp]),show ρ x=ρ' x from hl (i,x) (by simp)]
     exact this _ fun p hp=>h p.2 (by simp;exact ⟨p.1,by simpa using hp⟩)
   rw [this]
 case makeFunc fn first captured=>
   rw [ar first fun x hx=>h x (by simp [hx]),ar captured fun x hx=>h x (by simp [hx])]
 case call c=>
   obtain ⟨callee,args,argTypes⟩:=c
   cases callee with
   | value f=>rfl
   | invoke r m=>rfl
   | builtin b=>cases b<;>first | rfl | (simp only;rw [ar args fun x hx=>h x (by simp [Call.operands,hx])])
 case slice t x lo hi mx=>cases lo<;>cases hi<;>cases mx<;>simp_all
 all_goals first | rfl | (simp_all;done)
theorem ziD {P:Program} {ext:Xt} {o:Oper} {ρ ρ':Operand→Value} {w:World} {K:Value→World→Prop} (h:∀ x∈o.op.operands,ρ x=ρ' x)
   (hk:opK P ext o ρ w K):opK P ext o ρ' w K:=by
 have hr:=zjK h
 obtain ⟨dst,op,type,pos,after,guard⟩:=o
 have ar:∀ xs:Array Operand,(∀ x∈xs,ρ x=ρ' x)→xs.toList.map ρ=xs.toList.map ρ':=fun xs hx=>List.map_congr_left fun x hm=>hx x (by simpa using hm)
 have e1:∀ x,ρ x=ρ' x→ρ' x=ρ x:=fun _=>Eq.symm
 cases op<;>simp only [Op.operands] at h
 case call c=>
   obtain ⟨callee,args,argTypes⟩:=c
   have ha:=ar args fun x hx=>h x (by simp [Call.operands,hx])
   cases callee with
   | value f=>
     have hf:ρ f=ρ' f:=h f (by simp [Call.operands])
     cases f with
     | func f=>simp only [opK,ha] at hk ⊢;exact hk
     | _=>simp only [opK,ha,hf] at hk ⊢;exact hk
   | invoke r m=>
     have hf:ρ r=ρ' r:=h r (by simp [Call.operands])
     simp only [opK,ha,hf] at hk ⊢;exact hk
   | builtin b=>
     cases b<;>simp only [opK,ha,zev] at hk ⊢<;>exact hk
 case buildSlice t n ps=>
   have:prs ρ ps.toList=prs ρ' ps.toList:=by
     have:∀ l:List (Nat×Operand),(∀ p∈l,ρ p.2=ρ' p.2)→prs ρ l=prs ρ' l:=by
       intro l
       induction l with
       | nil=>intro _;rfl
       | cons p l ih=>intro hl;obtain ⟨i,x⟩:=p;simp only [prs];rw [ih fun p hp=>hl p (by simp [hp]),show ρ x=ρ' x from hl (i,x) (by simp)]
     exact this _ fun p hp=>h p.2 (by simp;exact ⟨p.1,by simpa using hp⟩)
   simp only [opK,this] at hk ⊢;exact hk
 case makeMap t r=>
   cases r with
   | none=>exact hk
   | some r=>simp only [opK,Option.map_some] at hk ⊢;rwa [←h r (by simp)]
 case move x=>simp only [opK] at hk ⊢;rwa [←h x (by simp)]
 case assign x=>simp only [opK] at hk ⊢;rwa [←h x (by simp)]
 case pick c x y=>simp only [opK] at hk ⊢;rwa [←h x (by simp),←h y (by simp),←h c (by simp)]
 case nilCheck x=>simp only [opK] at hk ⊢;rwa [←h x (by simp)]
 case alloc e=>exact hk
 case box e x=>simp only [opK] at hk ⊢;rwa [←h x (by simp)]
 case store t x y=>simp only [opK] at hk ⊢;rwa [←h x (by simp),←h y (by simp)]
 case makeSlice t x y=>simp only [opK] at hk ⊢;rwa [←h x (by simp),←h y (by simp)]
 case mapUpdate t x y z=>simp only [opK] at hk ⊢;rwa [←h x (by simp),←h y (by simp),←h z (by simp)]
 case insert t x y z=>simp only [opK] at hk ⊢;rwa [←h x (by simp),←h y (by simp),←h z (by simp)]
 case mapEntry t x y=>simp only [opK] at hk ⊢;rwa [←h x (by simp),←h y (by simp)]
 case entryStore t x y z=>simp only [opK] at hk ⊢;rwa [←h x (by simp),←h y (by simp),←h z (by simp)]
 case range t x=>simp only [opK] at hk ⊢;rwa [←h x (by simp)]
 case next x b=>simp only [opK] at hk ⊢;rwa [←h x (by simp)]
 case entry x=>simp only [opK] at hk ⊢;rwa [←h x (by simp)]
 all_goals first
   | exact (show False from hk).elim
   | (simp only [opK] at hk ⊢;rw [←hr];exact hk)
def zjL (o:Oper):Bool:=
 match o.op with
 | .move _=>true
 | .assign _=>true
 | .pick ..=>true
 | .nilCheck _=>true
 | _=>(zev o fun _=>undef).isSome
def Rv (P:Program) (x:Xt) (o:Oper) (ρ:Operand→Value) (w:World) (v:Value):Prop:=
 match o.op with
 | .move x=>v=ρ x
 | .assign x=>v=ρ x
 | .pick c a b=>∃ t,ρ c=.bool t∧v=if t then ρ a else ρ b
 | .nilCheck x=>zms (ρ x)=true∧v=ρ x
 | _=>∃ m,zev o ρ=some m∧∀ w',x.rel w w'→m.run P w'=.ok v w'
theorem zeQ {P:Program} {ext:Xt} {o:Oper} {ρ:Operand→Value} {w:World} {K:Value→World→Prop} (hr:zjL o=true) :
   opK P ext o ρ w K↔∃ v,Rv P ext o ρ w v∧K v w:=by
 obtain ⟨dst,op,type,pos,after,guard⟩:=o
 have rd:∀ m,(match ext.X with | none=>RD P m w (fun v=>K v w) | some X=>RDX P X m w (fun v=>K v w))↔∃ v,(∃ m',some m=some m'∧∀ w',ext.rel w w'→m'.run P w'=.ok v w')∧K v w:=fun m=>
   RDr_iff.trans ⟨fun ⟨v,h,k⟩=>⟨v,⟨m,rfl,h⟩,k⟩,fun ⟨v,⟨m',e,h⟩,k⟩=>by cases e;exact ⟨v,h,k⟩⟩
 cases op
 case move x=>simp [opK,Rv]
 case assign x=>simp [opK,Rv]
 case pick c x y=>
   simp only [opK,Rv,ziC]
   constructor
   · rintro ⟨b,hb,h⟩;exact ⟨_,⟨b,hb,rfl⟩,by cases b<;>exact h⟩
   rintro ⟨v,⟨b,hb,rfl⟩,h⟩;exact ⟨b,hb,by cases b<;>exact h⟩
 case nilCheck x=>
   simp only [opK,Rv]
   exact ⟨fun ⟨a,b⟩=>⟨_,⟨a,rfl⟩,b⟩,fun ⟨v,⟨a,e⟩,b⟩=>by subst e;exact ⟨a,b⟩⟩
 case call c=>
   obtain ⟨callee,args,argTypes⟩:=c
   cases callee with
   | value f=>simp [zjL,zev] at hr
   | invoke r m=>simp [zjL,zev] at hr
   | builtin b=>cases b<;>first | exact rd _ | (simp [zjL,zev] at hr)
 all_goals first
   | exact rd _
   | (simp [zjL,zev] at hr)
theorem zrd {P:Program} {x:Xt} {o:Oper} {ρ:Operand→Value} {w w':World} {v:Value} (h:Rv P x o ρ w v) (hx:x.rel w w'):Rv P x o ρ w' v:=by
 unfold Rv at *
 split at h<;>try exact h
 obtain ⟨m,hm,h⟩:=h
 exact ⟨m,hm,fun w'' hx'=>h w'' (x.rel_trans hx hx')⟩
theorem zoq {P:Program} {xt:Xt} {o:Oper} {ρ ρ':Operand→Value} {w:World} {v:Value} (h:∀ x∈o.op.operands,ρ x=ρ' x) (hr:zjL o=true) (hv:Rv P xt o ρ w v):Rv P xt o ρ' w v:=by
 have h1:=(zeQ (P:=P) (ext:=xt) (K:=fun v' w'=>v'=v∧w'=w) hr).2 ⟨v,hv,rfl,rfl⟩
 obtain ⟨v',hv',rfl,_⟩:=(zeQ hr).1 (ziD h h1)
 exact hv'
def zcj (o:Oper):Bool:=
 match o.op with
 | .move _=>true
 | .assign _=>true
 | .pick ..=>true
 | .nilCheck _=>true
 | .extract ..=>true
 | _=>false
theorem zdO {o:Oper} (h:zcj o=true):zjL o=true:=by
 obtain ⟨dst,op,type,pos,after,guard⟩:=o
 cases op<;>first | rfl | (simp [zcj] at h)
theorem zp4 {P:Program} {x:Xt} {o:Oper} {ρ:Operand→Value} {w w':World} {v:Value} (hp:zcj o=true) (h:Rv P x o ρ w v):Rv P x o ρ w' v:=by
 obtain ⟨dst,op,type,pos,after,guard⟩:=o
 cases op<;>first | exact h | (simp [zcj] at hp;done) | skip
 case extract t i=>
   obtain ⟨m,hm,h⟩:=h
   simp only [zev,Option.some.injEq] at hm
   subst hm
   refine ⟨_,rfl,fun w'' _=>?_⟩
   have h1:=h w (x.rel_refl w)
   revert h1
   cases ρ t with
   | tuple vs=>
     simp only [Instr.extract]
     cases vs[i]? with
     | none=>intro h1;simp at h1
     | some u=>intro h1;simp at h1 ⊢;exact h1
   | _=>intro h1;simp [Instr.extract] at h1
def gOk (ol:List Oper) (o:Oper) (s:Env):Option Bool:=
 match o.guard with
 | none=>some true
 | some (j,want)=>
   match (nth ol j).bind (·.dst) with
   | none=>none
   | some d=>match s d with
     | .bool b=>some (b == want)
     | .tuple a=>bif Nat.beq a.size 0 then (match (nth ol j).bind (·.guard) with | none=>none | some _=>some false) else none
     | _=>none
theorem zp5 (v:Value) (kt kf ks:Prop):GBR v kt kf ks↔(∃ b,v=.bool b∧(if b then kt else kf))∨(v=undef∧ks):=by
 cases v with
 | bool b=>cases b<;>simp [GBR,undef]
 | tuple a=>
   simp only [GBR,undef]
   cases h:Nat.beq a.size 0 with
   | true=>
     have:a=#[]:=Array.size_eq_zero_iff.1 (Nat.eq_of_beq_eq_true h)
     subst this;simp
   | false=>
     have:a≠#[]:=fun e=>by subst e;cases h
     simp [this]
 | _=>simp [GBR,undef]
theorem zbN {P:Program} {ext:Xt} {ol:List Oper} {fl i:Nat} {s:Env} {w:World} {K:Env→World→Prop} {o:Oper} (ho:nth ol i=some o) :
   zdL P ext ol fl i s w K↔∃ b,gOk ol o s=some b∧(if b then opF P ext o (zaN fl i) s w K else K (put s o.dst undef) w):=by
 unfold zdL gOk
 simp only [ho]
 cases hg:o.guard with
 | none=>simp
 | some g=>
   obtain ⟨j,want⟩:=g
   simp only
   cases hd:(nth ol j).bind (·.dst) with
   | none=>simp
   | some d=>
     simp only
     cases hgj:(nth ol j).bind (·.guard) with
     | none=>
       simp only [ziC]
       constructor
       · rintro ⟨b,hb,h⟩
         have hu:=zdl hb
         refine ⟨b == want,by simp [hb],?_⟩
         cases b<;>cases want<;>simp only [cond_true,cond_false,if_true,Bool.false_eq_true,if_false,hu] at h ⊢<;>simpa using h
       rintro ⟨c,hc,h⟩
       cases hv:s d with
       | bool b=>
         rw [hv] at hc
         simp only [Option.some.injEq] at hc
         subst hc
         have hu:=zdl hv
         refine ⟨b,rfl,?_⟩
         cases b<;>cases want<;>simp only [cond_true,cond_false,if_true,Bool.false_eq_true,if_false,hu]<;>simpa using h
       | tuple a=>rw [hv] at hc;simp only at hc;cases h0:Nat.beq a.size 0<;>rw [h0] at hc<;>simp at hc
       | _=>rw [hv] at hc;simp at hc
     | some g'=>
       simp only [zp5]
       constructor
       · rintro (⟨b,hb,h⟩ | ⟨hb,h⟩)
         · have hu:=zdl hb
           refine ⟨b == want,by simp [hb],?_⟩
           cases b<;>cases want<;>simp only [cond_true,cond_false,if_true,Bool.false_eq_true,if_false,hu] at h ⊢<;>simpa using h
         have hu:=zdl hb
         rw [hu] at h
         exact ⟨false,by rw [hb];rfl,by simpa using h⟩
       rintro ⟨c,hc,h⟩
       cases hv:s d with
       | bool b=>
         rw [hv] at hc
         simp only [Option.some.injEq] at hc
         subst hc
         have hu:=zdl hv
         refine .inl ⟨b,rfl,?_⟩
         cases b<;>cases want<;>simp only [cond_true,cond_false,if_true,Bool.false_eq_true,if_false,hu]<;>simpa using h
       | tuple a=>
         rw [hv] at hc
         simp only at hc
         cases h0:Nat.beq a.size 0 with
         | false=>rw [h0] at hc;simp at hc
         | true=>
           rw [h0] at hc
           simp only [cond_true,Option.some.injEq] at hc
           subst hc
           have ha:a=#[]:=Array.size_eq_zero_iff.1 (Nat.eq_of_beq_eq_true h0)
           subst ha
           have hu:upd s d undef=s:=zdl hv
           refine .inr ⟨rfl,?_⟩
           rw [hu]
           simpa using h
       | _=>rw [hv] at hc;simp at hc
theorem zor {P:Program} {ext:Xt} {o:Oper} {flag:Bool} {s:Env} {w:World} {K K':Env→World→Prop} (hk:∀ s w,K s w→K' s w)
   (h:opF P ext o flag s w K):opF P ext o flag s w K':=by
 refine zeP (fun v w' hh=>?_) h
 cases flag
 · exact hk _ _ hh
 exact ⟨hh.1,hk _ _ hh.2⟩
theorem zlF {P:Program} {ext:Xt} {ol:List Oper} {fl i:Nat} {s:Env} {w:World} {K K':Env→World→Prop} (hk:∀ s w,K s w→K' s w)
   (h:zdL P ext ol fl i s w K):zdL P ext ol fl i s w K':=by
 cases ho:nth ol i with
 | none=>simp [zdL,ho] at h
 | some o=>
   rw [zbN ho] at h ⊢
   obtain ⟨b,hb,h⟩:=h
   refine ⟨b,hb,?_⟩
   cases b
   · exact hk _ _ h
   exact zor hk h
theorem zmw {ops:Array Oper} {o:Oper} {s:Env} {x:Option Nat} {v:Value} (h:∀ d,x=some d→d∉o.looksAt ops):gOk ops.toList o (put s x v)=gOk ops.toList o s:=by
 unfold gOk
 cases hg:o.guard with
 | none=>rfl
 | some g=>
   obtain ⟨j,want⟩:=g
   simp only
   cases hd:(nth ops.toList j).bind (·.dst) with
   | none=>rfl
   | some t=>
     have:put s x v t=s t:=zmt fun d hx e=>h d hx (by subst e;rw [zbH] at hd;simp [Oper.looksAt,hg,hd])
     simp only [this]
theorem zpt {ops:Array Oper} {o:Oper} {s:Env} {x:Option Nat} {v:Value} (h:∀ d,x=some d→d∉o.looksAt ops):∀ y∈o.op.operands,ev (put s x v) y=ev s y:=by
 intro y hy
 cases y with
 | tmp t=>
   show put s x v t=s t
   exact zmt fun d hx e=>h d hx (by subst e;exact List.mem_append_left _ (List.mem_filterMap.2 ⟨.tmp t,by simpa using hy,rfl⟩))
 | _=>rfl
theorem zsq {P:Program} {ext:Xt} {ops:Array Oper} {fl x y:Nat} {ox oy:Oper} {s:Env} {w:World} {K:Env→World→Prop}
   (hx:nth ops.toList x=some ox) (hy:nth ops.toList y=some oy) (hr:zjL ox=true) (hfx:zaN fl x=false) (hap:ox.apart ops oy=true) (hf:zjL oy=true∨zaN fl y=true∨zcj ox=true)
   (h:zdL P ext ops.toList fl x s w fun s w=>zdL P ext ops.toList fl y s w K) :
   zdL P ext ops.toList fl y s w fun s w=>zdL P ext ops.toList fl x s w K:=by
 obtain ⟨h1,h2,h3⟩:=Oper.apart_spec hap
 rw [zbN hx] at h
 obtain ⟨bx,hbx,h⟩:=h
 -- what the reading operation yields, here and later
 have key:∃ v,(∀ s2 w2,(ext.rel w w2∨zcj ox=true)→(gOk ops.toList ox s2=gOk ops.toList ox s)→(∀ z∈ox.op.operands,ev s2 z=ev s z)→K (put s2 ox.dst v) w2→zdL P ext ops.toList fl x s2 w2 K) ∧
     zdL P ext ops.toList fl y (put s ox.dst v) w K:=by
   cases bx with
   | false=>
     refine ⟨undef,fun s2 w2 _ hg _ hk=>?_,h⟩
     rw [zbN hx]
     exact ⟨false,by rw [hg,hbx],hk⟩
   | true=>
     simp only [if_true] at h
     obtain ⟨v,hv,hk⟩:=(zeQ hr).1 h
     rw [hfx] at hk
     refine ⟨v,fun s2 w2 hxt hg he hk2=>?_,hk⟩
     rw [zbN hx]
     refine ⟨true,by rw [hg,hbx],?_⟩
     rw [hfx]
     simp only [if_true]
     unfold opF
     have hvc:=zoq (fun z hz=>(he z hz).symm) hr hv
     rcases hxt with hxt | hxt
     · exact (zeQ hr).2 ⟨v,zrd hvc hxt,hk2⟩
     exact (zeQ hr).2 ⟨v,zp4 hxt hvc,hk2⟩
 obtain ⟨v,hback,hyk⟩:=key
 rw [zbN hy] at hyk ⊢
 obtain ⟨b,hb,hyk⟩:=hyk
 rw [zmw (fun d hd=>h1 d hd)] at hb
 refine ⟨b,hb,?_⟩
 have fin:∀ u w2,(ext.rel w w2∨zcj ox=true)→K (put (put s ox.dst v) oy.dst u) w2→zdL P ext ops.toList fl x (put s oy.dst u) w2 K:=by
   intro u w2 hxt hk
   refine hback _ _ hxt (zmw fun d hd=>h3 d hd) (zpt fun d hd=>h3 d hd) ?_
   rw [←zoo s v u h2];exact hk
 cases b with
 | false=>exact fin _ _ (.inl (ext.rel_refl w)) hyk
 | true=>
   simp only [if_true] at hyk ⊢
   unfold opF at hyk ⊢
   have hyk:=ziD (ρ':=ev s) (zpt fun d hd=>h1 d hd) hyk
   rcases hf with hf | hf | hf
   · obtain ⟨u,hu,hk⟩:=(zeQ hf).1 hyk
     refine (zeQ hf).2 ⟨u,hu,?_⟩
     cases hm:zaN fl y<;>rw [hm] at hk
     · exact fin _ _ (.inl (ext.rel_refl w)) hk
     exact ⟨hk.1,fin _ _ (.inl hk.1) hk.2⟩
   · refine zeP (fun u w2 hk=>?_) hyk
     rw [hf] at hk ⊢
     exact ⟨hk.1,fin _ _ (.inl hk.1) hk.2⟩
   refine zeP (fun u w2 hk=>?_) hyk
   cases hm:zaN fl y<;>rw [hm] at hk
   · exact fin _ _ (.inr hf) hk
   exact ⟨hk.1,fin _ _ (.inr hf) hk.2⟩
theorem zlG {P:Program} {ext:Xt} {ops:Array Oper} {fl y:Nat} {oy:Oper} {K:Env→World→Prop} (hy:nth ops.toList y=some oy) (c2:List Nat) :
   ∀ (c1:List Nat) (s:Env) (w:World),(∀ x∈c1,∃ ox,nth ops.toList x=some ox∧zjL ox=true∧zaN fl x=false∧ox.apart ops oy=true∧(zjL oy=true∨zaN fl y=true∨zcj ox=true)) →
     zeM P ext ops.toList fl K (c1++y :: c2) s w→zeM P ext ops.toList fl K (y :: (c1++c2)) s w:=by
 intro c1
 induction c1 with
 | nil=>intro s w _ h;exact h
 | cons x c1 ih=>
   intro s w hc h
   obtain ⟨ox,hx,hr,hfx,hap,hf⟩:=hc x (by simp)
   refine zsq hx hy hr hfx hap hf ?_
   exact zlF (fun s w hk=>ih s w (fun z hz=>hc z (by simp [hz])) hk) h
structure Kept (n:Nat) (ds:List Nat) (a a':Act):Prop where
 size:a'.tmps.size=n
 defers:a'.defers=a.defers
 env:∀ t,t∉ds→zaH a' t=zaH a t
theorem Kept.refl {n:Nat} {a:Act} (ds:List Nat) (h:a.tmps.size=n):Kept n ds a a:=⟨h,rfl,fun _ _=>rfl⟩
theorem Kept.trans {n:Nat} {d1 d2 ds:List Nat} {a b c:Act} (h:Kept n d1 a b) (k:Kept n d2 b c) (h1:∀ t,t∈d1→t∈ds) (h2:∀ t,t∈d2→t∈ds):Kept n ds a c:=
 ⟨k.size,k.defers.trans h.defers,fun t ht=>(k.env t fun e=>ht (h2 t e)).trans (h.env t fun e=>ht (h1 t e))⟩
def zga (ol:List Oper):List Nat:=ol.filterMap (·.dst)
def zjM (ext:List Nat) (N n:Nat) (ol:List Oper):Bool:=ol.all fun o=>zkI ext N o&&(match o.dst with | some d=>Nat.blt d n | none=>true)
theorem zos {ext:Xt} {N n:Nat} {ol:List Oper} (h:zjM ext.l N n ol=true) {i:Nat} {o:Oper} (ho:nth ol i=some o) :
   zkI ext.l N o=true∧(∀ d,o.dst=some d→d<n)∧(∀ d,o.dst=some d→d∈zga ol):=by
 rw [zeo] at ho
 have hm:=List.mem_of_getElem? ho
 have h1:=List.all_eq_true.1 h o hm
 simp only [Bool.and_eq_true] at h1
 refine ⟨h1.1,fun d hd=>?_,fun d hd=>List.mem_filterMap.2 ⟨o,hm,hd⟩⟩
 have h2:=h1.2
 rw [hd] at h2
 exact Nat.le_of_ble_eq_true h2
theorem zlH {ops:Array Oper} {o:Oper} {a:Act} {b:Bool} (h:gOk ops.toList o (zaH a)=some b):Region.wanted o (yielded ops a.tmps)=b:=by
 unfold gOk at h
 unfold Region.wanted
 cases hg:o.guard with
 | none=>rw [hg] at h;simpa using h
 | some g=>
   obtain ⟨j,want⟩:=g
   rw [hg] at h
   simp only at h ⊢
   rw [zbH] at h
   unfold yielded
   cases hd:(ops[j]?).bind (·.dst) with
   | none=>rw [hd] at h;simp at h
   | some d=>
     rw [hd] at h
     simp only [Option.bind_some] at h ⊢
     cases hv:a.tmps[d]? with
     | none=>
       have:zaH a d=undef:=by simp [zaH,hv]
       rw [this] at h
       simp only [undef] at h
       cases hgj:(ops[j]?).bind (·.guard) with
       | none=>rw [hgj] at h;simp at h
       | some g'=>
         rw [hgj] at h
         simp at h
         rw [h]
         rfl
     | some v=>
       have:zaH a d=v:=by simp [zaH,hv]
       rw [this] at h
       cases v with
       | bool c=>simp only [Option.some.injEq] at h;subst h;cases c<;>cases want<;>rfl
       | tuple a=>
         simp only at h
         cases h0:Nat.beq a.size 0 with
         | false=>rw [h0] at h;simp at h
         | true=>
           rw [h0] at h
           simp only [cond_true] at h
           cases hgj:(ops[j]?).bind (·.guard) with
           | none=>rw [hgj] at h;simp at h
           | some g'=>
             rw [hgj] at h
             simp only [Option.some.injEq] at h
             subst h
             rfl
       | _=>simp at h
section
variable {P:Program} {ext:Xt} {N n:Nat} (hE:∀ f,f<N→ext.l.elem f=false→zcC P f=true)
include hE
theorem zdm {ops:Array Oper} {fl i:Nat} {a:Act} {w:World} {K:Env→World→Prop} {M:Act→World→Prop} {Q:Exit→Act→World→Prop}
   (hok:zjM ext.l N n ops.toList=true) (hn:a.tmps.size=n) (h:zdL P ext ops.toList fl i (zaH a) w K)
   (hM:∀ a' w',Kept n (zga ops.toList) a a'→K (zaH a') w'→M a' w'):wpOp P ops Q i M a w:=by
 cases ho:nth ops.toList i with
 | none=>simp [zdL,ho] at h
 | some o=>
   obtain ⟨hc,hd,hm⟩:=zos hok ho
   have hput:∀ v,zaH (a.put o.dst v)=put (zaH a) o.dst v:=fun v=>zmu fun t ht=>by rw [hn];exact hd t ht
   have hkept:∀ v,Kept n (zga ops.toList) a (a.put o.dst v):=fun v=>
     ⟨by rw [zop,hn],zp2 a _ v,fun t ht=>by rw [hput];exact zmt fun d hd e=>ht (e▸hm d hd)⟩
   rw [zbN ho] at h
   obtain ⟨b,hb,h⟩:=h
   unfold wpOp
   rw [←zbH,ho]
   simp only [zlH hb]
   cases b with
   | false=>
     simp only [Bool.false_eq_true,if_false] at h ⊢
     exact hM _ _ (hkept _) (by rw [hput];exact h)
   | true=>
     simp only [if_true] at h ⊢
     refine .inl ?_
     unfold opF at h
     rw [zkH] at h
     refine Oper.wp_mono (fun a' w'=>?_) (zmv hE hc h)
     rintro ⟨v,rfl,hk⟩
     refine hM _ _ (hkept v) ?_
     rw [hput]
     cases hf:zaN fl i<;>rw [hf] at hk
     · exact hk
     exact hk.2
theorem zjN {ops:Array Oper} {fl:Nat} {K:Env→World→Prop} {Q:Exit→Act→World→Prop} (hok:zjM ext.l N n ops.toList=true) :
   ∀ (l:List Nat) (a:Act) (w:World),a.tmps.size=n→zeM P ext ops.toList fl K l (zaH a) w →
     (∀ a' w',Kept n (zga ops.toList) a a'→K (zaH a') w'→Q .normal a' w')→wpOps P ops Q l a w:=by
 intro l
 induction l with
 | nil=>intro a w hn h hq;exact hq a w (.refl _ hn) h
 | cons i l ih=>
   intro a w hn h hq
   rw [wpOps_cons]
   exact zdm hE hok hn h fun a' w' hk hh=>ih a' w' hk.size hh fun a'' w'' hk' hh'=>hq a'' w'' (hk.trans hk' (fun _ h=>h) (fun _ h=>h)) hh'
end
def zjO:List Oper→List Nat→List Nat
 | [],acc=>acc
 | o :: r,acc=>zjO r (acc++[o.after.toList.foldl (fun m e=>bif Region.binds .any e then Nat.lor (Nat.lor m (Nat.shiftLeft 1 e.on)) (match nth acc e.on with | some k=>k | none=>0) else m) 0])
def zot (ol:List Oper):List Nat:=zjO ol []
def zcY (A:List Nat) (j:Nat):Nat:=match nth A j with | some k=>k | none=>0
theorem zp6 {A:List Nat} {l:List Edge} {m i:Nat}
   (h:Nat.testBit (l.foldl (fun m e=>bif Region.binds .any e then Nat.lor (Nat.lor m (Nat.shiftLeft 1 e.on)) (zcY A e.on) else m) m) i=true) :
   Nat.testBit m i=true∨∃ e∈l,Region.binds .any e=true∧(e.on=i∨Nat.testBit (zcY A e.on) i=true):=by
 induction l generalizing m with
 | nil=>exact .inl h
 | cons e l ih=>
   rcases ih h with h | ⟨e',he,hb,hh⟩
   · dsimp only at h
     cases hb:Region.binds .any e with
     | false=>rw [hb] at h;exact .inl h
     | true=>
       rw [hb] at h
       simp only [cond_true] at h
       change Nat.testBit ((m ||| (1 <<< e.on)) ||| zcY A e.on) i=true at h
       simp only [Nat.testBit_or,Bool.or_eq_true] at h
       rcases h with (h | h) | h
       · exact .inl h
       · refine .inr ⟨e,by simp,hb,.inl ?_⟩
         rw [Nat.one_shiftLeft,Nat.testBit_two_pow] at h
         simpa using h
       exact .inr ⟨e,by simp,hb,.inr h⟩
   exact .inr ⟨e',by simp [he],hb,hh⟩
theorem zbO {α:Type} {l r:List α} {j:Nat} (h:j<l.length):nth (l++r) j=nth l j:=by
 rw [zeo,zeo,List.getElem?_append_left h]
theorem zlJ:∀ (ol:List Oper) (pre:List Oper) (acc:List Nat),acc.length=pre.length →
   (∀ j o,nth pre j=some o→∀ i,Nat.testBit (zcY acc j) i=true→∃ e∈o.after,Region.binds .any e=true∧(e.on=i∨(e.on<j∧Nat.testBit (zcY acc e.on) i=true))) →
   (zjO ol acc).length=(pre++ol).length ∧
   ∀ j o,nth (pre++ol) j=some o→∀ i,Nat.testBit (zcY (zjO ol acc) j) i=true→∃ e∈o.after,Region.binds .any e=true∧(e.on=i∨(e.on<j∧Nat.testBit (zcY (zjO ol acc) e.on) i=true)):=by
 intro ol
 induction ol with
 | nil=>intro pre acc hl h;simpa [zjO] using ⟨hl,h⟩
 | cons o r ih=>
   intro pre acc hl h
   have step:=ih (pre++[o]) (acc++[o.after.toList.foldl (fun m e=>bif Region.binds .any e then Nat.lor (Nat.lor m (Nat.shiftLeft 1 e.on)) (match nth acc e.on with | some k=>k | none=>0) else m) 0]) (by simp [hl]) ?_
   · simpa [zjO] using step
   intro j p hp i hi
   rcases Nat.lt_trichotomy j pre.length with hj | hj | hj
   · rw [zbO hj] at hp
     have hja:j<acc.length:=by omega
     have hi':Nat.testBit (zcY acc j) i=true:=by simpa only [zcY,zbO hja] using hi
     obtain ⟨e,he,hb,hh⟩:=h j p hp i hi'
     refine ⟨e,he,hb,hh.imp id fun ⟨h1,h2⟩=>⟨h1,?_⟩⟩
     simpa only [zcY,zbO (show e.on<acc.length by omega)] using h2
   · subst hj
     have hp':p=o:=by rw [zeo] at hp;simpa using hp.symm
     subst hp'
     have:zcY (acc++[p.after.toList.foldl (fun m e=>bif Region.binds .any e then Nat.lor (Nat.lor m (Nat.shiftLeft 1 e.on)) (match nth acc e.on with | some k=>k | none=>0) else m) 0]) pre.length=p.after.toList.foldl (fun m e=>bif Region.binds .any e then Nat.lor (Nat.lor m (Nat.shiftLeft 1 e.on)) (zcY acc e.on) else m) 0:=by
       unfold zcY
       rw [zeo,←hl]
       simp
     rw [this] at hi
     rcases zp6 hi with h0 | ⟨e,he,hb,hh⟩
     · simp at h0
     refine ⟨e,by simpa using he,hb,hh.imp id fun h2=>?_⟩
     have hlt:e.on<acc.length:=by
       rcases Nat.lt_or_ge e.on acc.length with h' | h'
       · exact h'
       have:zcY acc e.on=0:=by unfold zcY;rw [zeo,List.getElem?_eq_none h']
       rw [this] at h2;simp at h2
     exact ⟨by omega,by simpa only [zcY,zbO hlt] using h2⟩
   have:nth (pre++[o]) j=none:=by rw [zeo];simp;omega
   rw [this] at hp;cases hp
theorem zmx (ol:List Oper) (j:Nat) (o:Oper) (ho:nth ol j=some o) (i:Nat) (h:Nat.testBit (zcY (zot ol) j) i=true) :
   ∃ e∈o.after,Region.binds .any e=true∧(e.on=i∨(e.on<j∧Nat.testBit (zcY (zot ol) e.on) i=true)):=
 (zlJ ol [] [] rfl (by intro j o h;simp [nth] at h)).2 j o ho i h
end Go.Sh
namespace Go.Sh
open Go.RowKit (Below)
def zhe:List Nat→Bool
 | []=>true
 | x :: l=>!l.elem x&&zhe l
def zq3 (ol:List Oper):List Nat→List Nat→Bool
 | _,[]=>true
 | seen,i :: r=>(match nth ol i with | some o=>o.after.toList.all fun e=>!Region.binds .any e || seen.elem e.on | none=>false)&&zq3 ol (i :: seen) r
def zmy (ops:Array Oper) (A:List Nat) (fl i j:Nat):Bool:=
 zaN (zcY A j) i || (match nth ops.toList i,nth ops.toList j with
   | some oi,some oj=>zjL oi&&!zaN fl i&&oi.apart ops oj&&(zjL oj || (zaN fl j || zcj oi))
   | _,_=>false)
def zep (ops:Array Oper) (A:List Nat) (fl:Nat):List Nat→Bool
 | []=>true
 | i :: r=>r.all (zmy ops A fl i)&&zep ops A fl r
def zpu (ops:Array Oper) (c:List Nat) (fl:Nat):Bool:=
 zhe c&&(c.all fun i=>Nat.blt i ops.size)&&((List.range ops.size).all fun i=>c.elem i)&&zq3 ops.toList [] c&&zep ops (zot ops.toList) fl c
theorem zdn:∀ {l:List Nat},zhe l=true→l.Nodup
 | [],_=>List.nodup_nil
 | x :: l,h=>by
   simp only [zhe,Bool.and_eq_true,Bool.not_eq_true'] at h
   refine List.nodup_cons.2 ⟨fun hm=>?_,zdn h.2⟩
   have:l.elem x=true:=List.elem_eq_true_of_mem hm
   rw [h.1] at this;cases this
theorem zeR {ops:Array Oper} {A:List Nat} {fl:Nat}:∀ {c1 c2:List Nat} {y:Nat},zep ops A fl (c1++y :: c2)=true →
   (∀ x∈c1,zmy ops A fl x y=true)∧zep ops A fl (c1++c2)=true
 | [],c2,y,h=>by
   simp only [List.nil_append,zep,Bool.and_eq_true] at h
   exact ⟨by simp,h.2⟩
 | x :: c1,c2,y,h=>by
   simp only [List.cons_append,zep,Bool.and_eq_true,List.all_eq_true] at h
   obtain ⟨h1,h2⟩:=zeR h.2
   refine ⟨fun z hz=>?_,?_⟩
   · rcases List.mem_cons.1 hz with rfl | hz
     · exact h.1 y (by simp)
     exact h1 z hz
   simp only [List.cons_append,zep,Bool.and_eq_true,List.all_eq_true]
   exact ⟨fun z hz=>h.1 z (by rcases List.mem_append.1 hz with hz | hz<;>simp [hz]),h2⟩
structure Closed (ops:Array Oper) (listed:Array Bool):Prop where
 size:listed.size=ops.size
 down:∀ j o,ops[j]?=some o→listed.getD j false=true→∀ e∈o.after,Region.binds .any e=true→listed.getD e.on false=true
theorem zhf {ops:Array Oper} {listed:Array Bool} (hc:Closed ops listed):∀ (j:Nat) (o:Oper),ops[j]?=some o →
   (∀ e∈o.after,Region.binds .any e=true→listed.getD e.on false=true)→∀ i,Nat.testBit (zcY (zot ops.toList) j) i=true→listed.getD i false=true:=by
 intro j
 induction j using Nat.strongRecOn with
 | _ j ih=>
   intro o ho hd i hi
   obtain ⟨e,he,hb,hh⟩:=zmx ops.toList j o (by rw [zbH];exact ho) i hi
   have hl:=hd e he hb
   rcases hh with rfl | ⟨hlt,hh⟩
   · exact hl
   cases ho':ops[e.on]? with
   | none=>
     have:e.on<ops.size:=Nat.lt_trans hlt (Array.getElem?_eq_some_iff.1 ho).1
     simp at ho'
     omega
   | some o'=>exact ih e.on hlt o' ho' (fun e' he' hb'=>hc.down e.on o' ho' hl e' he' hb') i hh
def Top (ops:Array Oper) (listed:Array Bool):List Nat→Prop
 | []=>True
 | i :: r=>(∃ o,ops[i]?=some o∧∀ e∈o.after,Region.binds .any e=true→listed.getD e.on false=true)∧Top ops (listed.setIfInBounds i true) r
theorem zhL {ops:Array Oper}:∀ {c1 c2:List Nat} {y:Nat} {l:Array Bool},Top ops l (c1++y :: c2)→Top ops (l.setIfInBounds y true) (c1++c2)
 | [],_,_,_,h=>h.2
 | x :: c1,c2,y,l,⟨⟨o,ho,hd⟩,ht⟩=>by
   refine ⟨⟨o,ho,fun e he hb=>getD_set_true (hd e he hb)⟩,?_⟩
   have h2:=zhL ht
   by_cases hxy:x=y
   · subst hxy;exact h2
   rw [Array.setIfInBounds_comm _ _ (Ne.symm hxy)];exact h2
theorem zeS {ops:Array Oper}:∀ {c seen:List Nat} {l:Array Bool},(∀ k,seen.elem k=true→l.getD k false=true)→(∀ i∈c,i<l.size)→zq3 ops.toList seen c=true→Top ops l c
 | [],_,_,_,_,_=>trivial
 | i :: c,seen,l,h,hc,ht=>by
   simp only [zq3,Bool.and_eq_true] at ht
   cases ho:nth ops.toList i with
   | none=>simp [ho] at ht
   | some o=>
     simp only [ho,List.all_eq_true,Bool.or_eq_true,Bool.not_eq_true'] at ht
     rw [zbH] at ho
     refine ⟨⟨o,ho,fun e he hb=>h _ ((ht.1 e (by simpa using he)).resolve_left (by simp [hb]))⟩,zeS (seen:=i :: seen) (fun k hk=>?_) (fun j hj=>by simpa using hc j (by simp [hj])) ht.2⟩
     by_cases hik:i=k
     · subst hik;simp [hc i (by simp)]
     rw [getD_set_ne false hik]
     refine h k ?_
     have hm:k∈i :: seen:=List.mem_of_elem_eq_true hk
     rcases List.mem_cons.1 hm with e | hm
     · exact absurd e.symm hik
     exact List.elem_eq_true_of_mem hm
section
variable {P:Program} {ext:Xt} {N n:Nat} (hE:∀ f,f<N→ext.l.elem f=false→zcC P f=true)
include hE
theorem zfp {ops:Array Oper} {fl:Nat} {K:Env→World→Prop} {Q:Exit→Act→World→Prop} (hok:zjM ext.l N n ops.toList=true) :
   ∀ (fuel:Nat) (c:List Nat) (listed:Array Bool) (a:Act) (w:World),c.length=fuel→c.Nodup→(∀ j,j∈c↔listed.getD j true=false)→Closed ops listed→Top ops listed c →
     zep ops (zot ops.toList) fl c=true→a.tmps.size=n→zeM P ext ops.toList fl K c (zaH a) w →
     (∀ a' w',Kept n (zga ops.toList) a a'→K (zaH a') w'→Q .normal a' w')→wpAny P .any ops Q fuel listed a w:=by
 intro fuel
 induction fuel with
 | zero=>
   intro c listed a w hl hnd hc hcl ht hp hn h hq
   have hnil:c=[]:=List.eq_nil_of_length_eq_zero hl
   subst hnil
   refine ⟨?_,hq a w (.refl _ hn) h⟩
   rw [List.eq_nil_iff_forall_not_mem]
   intro j hj
   exact absurd ((hc j).2 (mem_ready.1 hj).1) (by simp)
 | succ fuel ih=>
   intro c listed a w hl hnd hc hcl ht hp hn h hq
   refine ⟨fun hnone=>?_,fun y hy=>?_⟩
   · cases c with
     | nil=>simp at hl
     | cons i r=>
       obtain ⟨⟨o,ho,hd⟩,_⟩:=ht
       have:i∈Region.ready .any ops listed:=mem_ready.2 ⟨(hc i).1 (by simp),o,ho,hd⟩
       rw [hnone] at this;cases this
   obtain ⟨hun,oy,hoy,hdeps⟩:=mem_ready.1 hy
   have hyc:y∈c:=(hc y).2 hun
   obtain ⟨c1,c2,rfl⟩:=List.append_of_mem hyc
   have hoy':nth ops.toList y=some oy:=by rw [zbH];exact hoy
   obtain ⟨hp1,hp2⟩:=zeR hp
   have hmove:∀ x∈c1,∃ ox,nth ops.toList x=some ox∧zjL ox=true∧zaN fl x=false∧ox.apart ops oy=true∧(zjL oy=true∨zaN fl y=true∨zcj ox=true):=by
     intro x hx
     have hpair:=hp1 x hx
     unfold zmy at hpair
     rw [Bool.or_eq_true] at hpair
     rcases hpair with hb | hb
     · exfalso
       rw [zc4] at hb
       have h1:=zhf hcl y oy hoy hdeps x hb
       have h2:=(hc x).1 (by simp [hx])
       rcases Nat.lt_or_ge x listed.size with h' | h'
       · simp [h'] at h1 h2;rw [h1] at h2;cases h2
       simp [Array.getElem?_eq_none h'] at h1
     rw [hoy'] at hb
     cases hox:nth ops.toList x with
     | none=>simp [hox] at hb
     | some ox=>
       simp only [hox,Bool.and_eq_true,Bool.not_eq_true',Bool.or_eq_true] at hb
       exact ⟨ox,rfl,hb.1.1.1,hb.1.1.2,hb.1.2,hb.2⟩
   have h':=zlG hoy' c2 c1 (zaH a) w hmove h
   refine zdm hE hok hn h' fun a' w' hk hh=>?_
   have hylt:y<listed.size:=by
     rcases Nat.lt_or_ge y listed.size with h' | h'
     · exact h'
     simp [Array.getElem?_eq_none h'] at hun
   have hnd':=hnd
   rw [List.nodup_append] at hnd'
   refine ih (c1++c2) (listed.setIfInBounds y true) a' w' (by simp at hl ⊢;omega) ?_ ?_ ⟨by simp [hcl.size],?_⟩ (zhL ht) hp2 hk.size hh ?_
   · have:=hnd.sublist (l₁:=c1++c2) (List.Sublist.append_left (List.sublist_cons_self y c2) c1)
     exact this
   · intro j
     by_cases hjy:y=j
     · subst hjy
       have hnot:y∉c1++c2:=by
         intro hm
         rcases List.mem_append.1 hm with hm | hm
         · exact hnd'.2.2 y hm y (by simp) rfl
         exact (List.nodup_cons.1 hnd'.2.1).1 hm
       simp [hnot,hylt]
     rw [getD_set_ne true hjy,←hc j]
     simp only [List.mem_append,List.mem_cons]
     constructor
     · rintro (h | h)<;>simp [h]
     rintro (h | h | h)
     · exact .inl h
     · exact absurd h.symm hjy
     exact .inr h
   · intro j o ho hj e he hb
     by_cases hjy:y=j
     · subst hjy
       rw [hoy] at ho;cases ho
       exact getD_set_true (hdeps e he hb)
     rw [getD_set_ne false hjy] at hj
     exact getD_set_true (hcl.down j o ho hj e he hb)
   exact fun a'' w'' hk' hh'=>hq a'' w'' (hk.trans hk' (fun _ h=>h) (fun _ h=>h)) hh'
end
def zrM (ops:Array Oper) (A:List Nat) (p i k:Nat):Bool:=
 zaN (zcY A k) i || (match nth ops.toList i,nth ops.toList k with
   | some oi,some ok=>bif Nat.ble p k then Nat.blt i p&&(zcj oi&&oi.apart ops ok) else !(zcj oi&&zcj ok) || oi.apart ops ok
   | _,_=>false)
def zhM (ops:Array Oper) (m p:Nat):Bool:=
 Nat.ble p ops.size&&zhe (zga ops.toList)&&(ops.toList.all fun o=>o.guard.isNone)&&((zga ops.toList).all fun t=>zaN m t)&&((ops.toList.take p).all fun o=>o.dst.isSome) &&
   zq3 ops.toList [] (List.range ops.size)&&((List.range ops.size).all fun k=>(List.range k).all fun i=>zrM ops (zot ops.toList) p i k)
theorem zgb {P:Program} {ext:Xt} {ol:List Oper} {m:Nat} {s:Env} {w:World} {Q:ParQ}:∀ {l:List Oper} {k:Nat},zd2 P ext ol m s w Q k l →
   ∀ i o,l[i]?=some o→∀ (u:Env) (T:Nat→Nat×Nat) (w1:World),Ext w w1→zau (onL o.after.toList) w.heap.size w1.heap.size T→zfK Q u T w1 o.after.toList →
     opK P ext o (ev (mix m s u)) w1 (fun v w2=>Ext w1 w2∧Q (k+i) (upd u (zg7 ol (k+i)) v) (za3 T (k+i) (w1.heap.size,w2.heap.size)) w2)
 | [],_,_,i,o,ho=>by simp at ho
 | x :: l,k,h,0,o,ho=>by
   simp only [List.getElem?_cons_zero,Option.some.injEq] at ho
   subst ho
   exact h.1
 | x :: l,k,h,i+1,o,ho=>by
   have:=zgb h.2 i o (by simpa using ho)
   rwa [show k+(i+1)=k+1+i by omega]
theorem zgc {Q:ParQ} {u:Env} {T:Nat→Nat×Nat} {w:World}:∀ {n k:Nat},(∀ i,i<n→Q (k+i) u T w)→zf9 Q u T w k n
 | 0,_,_=>trivial
 | n+1,k,h=>⟨h 0 (by omega),zgc fun i hi=>by have:=h (i+1) (by omega);rwa [show k+1+i=k+(i+1) by omega]⟩
theorem zeT {Q:ParQ} {u:Env} {T:Nat→Nat×Nat} {w:World}:∀ {l:List Edge},(∀ e∈l,Region.binds .any e=true→Q e.on u T w)→zfK Q u T w l
 | [],_=>trivial
 | e :: l,h=>by
   simp only [zfK]
   cases hb:Region.binds .any e
   · exact zeT fun x hx=>h x (by simp [hx])
   exact ⟨h e (by simp) hb,zeT fun x hx=>h x (by simp [hx])⟩
theorem zhN:∀ {l:List Edge} {i:Nat},i∈onL l→∃ e∈l,Region.binds .any e=true∧e.on=i
 | [],_,h=>by simp [onL] at h
 | e :: l,i,h=>by
   simp only [onL] at h
   cases hb:Region.binds .any e
   · rw [hb] at h
     obtain ⟨x,hx,h2⟩:=zhN (l:=l) h
     exact ⟨x,by simp [hx],h2⟩
   rw [hb] at h
   simp only [cond_true,List.mem_cons] at h
   rcases h with rfl | h
   · exact ⟨e,by simp,hb,rfl⟩
   obtain ⟨x,hx,h2⟩:=zhN (l:=l) h
   exact ⟨x,by simp [hx],h2⟩
theorem zjP {ol:List Oper}:∀ {l:List Edge} {p:Nat×Nat},p∈onD ol l→p.2=zg7 ol p.1∧∃ e∈l,Region.binds .any e=true∧e.on=p.1
 | [],_,h=>by simp [onD] at h
 | e :: l,p,h=>by
   simp only [onD] at h
   cases hb:Region.binds .any e
   · rw [hb] at h
     obtain ⟨h0,x,hx,h2⟩:=zjP (l:=l) h
     exact ⟨h0,x,by simp [hx],h2⟩
   rw [hb] at h
   simp only [cond_true,List.mem_cons] at h
   rcases h with rfl | h
   · exact ⟨rfl,e,by simp,hb,rfl⟩
   obtain ⟨h0,x,hx,h2⟩:=zjP (l:=l) h
   exact ⟨h0,x,by simp [hx],h2⟩
theorem ziE {ol:List Oper}:∀ {l:List Oper} {k i:Nat} {p:Nat×Nat},p∈zjI (zeN ol k l) i→p.2=zg7 ol p.1∧∃ o,l[i]?=some o∧(p.1=k+i∨∃ e∈o.after.toList,Region.binds .any e=true∧e.on=p.1)
 | [],_,_,_,h=>by simp [zeN,zjI,nth] at h
 | o :: l,k,0,p,h=>by
   simp only [zeN,zjI,nth,List.mem_cons] at h
   rcases h with rfl | h
   · exact ⟨rfl,o,rfl,.inl rfl⟩
   obtain ⟨h0,h1⟩:=zjP h
   exact ⟨h0,o,rfl,.inr h1⟩
 | o :: l,k,i+1,p,h=>by
   have h':p∈zjI (zeN ol (k+1) l) i:=h
   obtain ⟨h0,o',ho,h1⟩:=ziE h'
   exact ⟨h0,o',by simpa using ho,h1.imp (fun e=>by omega) id⟩
theorem zkJ {ol:List Oper} (hn:(zga ol).Nodup):∀ {i j:Nat} {x y:Oper} {d:Nat},ol[i]?=some x→ol[j]?=some y→x.dst=some d→y.dst=some d→i=j:=by
 induction ol with
 | nil=>intro i j x y d hi;simp at hi
 | cons z l ih=>
   intro i j x y d hi hj hx hy
   have key:∀ {k:Nat} {o:Oper},l[k]?=some o→o.dst=some d→d∈zga l:=fun hk ho=>List.mem_filterMap.2 ⟨_,List.mem_of_getElem? hk,ho⟩
   have hn':(zga l).Nodup:=by
     unfold zga at hn ⊢
     rw [List.filterMap_cons] at hn
     split at hn
     · exact hn
     exact (List.nodup_cons.1 hn).2
   have hz:z.dst=some d→d∉zga l:=fun hz=>by
     unfold zga at hn ⊢
     rw [List.filterMap_cons,hz] at hn
     exact (List.nodup_cons.1 hn).1
   cases i with
   | zero=>
     simp only [List.getElem?_cons_zero,Option.some.injEq] at hi
     subst hi
     cases j with
     | zero=>rfl
     | succ j=>exact absurd (key (by simpa using hj) hy) (hz hx)
   | succ i=>
     cases j with
     | zero=>
       simp only [List.getElem?_cons_zero,Option.some.injEq] at hj
       subst hj
       exact absurd (key (by simpa using hi) hx) (hz hy)
     | succ j=>exact congrArg (·+1) (ih hn' (i:=i) (j:=j) (by simpa using hi) (by simpa using hj) hx hy)
theorem zd4 {m:Nat} {s u:Env} (h:∀ t,zaN m t=false→u t=s t):mix m s u=u:=by
 funext t
 unfold mix
 cases ht:zaN m t
 · exact (h t ht).symm
 rfl
theorem zdo {n p j:Nat}:j∈(List.range n).drop p↔p≤j∧j<n:=by
 rw [List.mem_drop_iff_getElem]
 constructor
 · rintro ⟨i,hi,he⟩;simp at he hi;omega
 rintro ⟨h1,h2⟩;exact ⟨j-p,by simp;omega,by simp;omega⟩
structure PInv (ops:Array Oper) (p m:Nat) (Q:ParQ) (s0:Env) (w0:World) (c:List Nat) (listed:Array Bool) (s:Env) (T:Nat→Nat×Nat) (w:World):Prop where
 nodup:(c++(List.range ops.size).drop p).Nodup
 mem:∀ j,j∈c++(List.range ops.size).drop p↔listed.getD j true=false
 lt:∀ j∈c,j<p
 sorted:c.Pairwise (· < ·)
 closed:Closed ops listed
 top:Top ops listed (c++(List.range ops.size).drop p)
 ext:Ext w0 w
 env:∀ t,zaN m t=false→s t=s0 t
 t1:∀ j,j<p→listed.getD j false=true→w0.heap.size≤(T j).1∧(T j).1≤(T j).2∧(T j).2≤w.heap.size
 t2:∀ i j,i<p→j<p→listed.getD i false=true→listed.getD j false=true→i≠j→(T i).2≤(T j).1∨(T j).2≤(T i).1
 q:∀ j,j<p→listed.getD j false=true→Q j s T w
section
variable {ops:Array Oper} {p m:Nat} {Q:ParQ} {s0 s:Env} {w0 w w':World} {c c1 c2:List Nat} {listed:Array Bool} {T:Nat→Nat×Nat} {y dy:Nat} {oy:Oper} {v:Value}
theorem PInv.edge (h:PInv ops p m Q s0 w0 c listed s T w) (hdeps:∀ e∈oy.after,Region.binds .any e=true→listed.getD e.on false=true) :
   ∀ e∈oy.after.toList,Region.binds .any e=true→e.on<p∧listed.getD e.on false=true:=fun e he hb=>by
 have hle:=hdeps e (by simpa using he) hb
 have hlt':e.on<ops.size:=by
   rcases Nat.lt_or_ge e.on listed.size with h' | h'
   · rw [h.closed.size] at h';exact h'
   simp [Array.getElem?_eq_none h'] at hle
 refine ⟨?_,hle⟩
 rcases Nat.lt_or_ge e.on p with h' | h'
 · exact h'
 exfalso
 have h2:=(h.mem e.on).1 (List.mem_append_right _ (zdo.2 ⟨h',hlt'⟩))
 have h3:e.on<listed.size:=by rw [h.closed.size];exact hlt'
 simp [h3] at hle h2;rw [hle] at h2;cases h2
theorem PInv.ready (h:PInv ops p m Q s0 w0 c listed s T w) {P:Program} {ext:Xt} (hs:zd2 P ext ops.toList m s0 w0 Q 0 (ops.toList.take p)) (hp:zhM ops m p=true)
   (hyp:y<p) (hoy:ops[y]?=some oy) (hdeps:∀ e∈oy.after,Region.binds .any e=true→listed.getD e.on false=true) (hdy:oy.dst=some dy) :
   opK P ext oy (ev s) w (fun v w2=>Ext w w2∧Q y (upd s dy v) (za3 T y (w.heap.size,w2.heap.size)) w2):=by
 have hedge:=h.edge hdeps
 have hon:∀ i∈onL oy.after.toList,i<p∧listed.getD i false=true:=fun i hi=>by
   obtain ⟨e,he,hb,rfl⟩:=zhN hi
   exact hedge e he hb
 have hoyl:ops.toList[y]?=some oy:=by simpa using hoy
 have hin:(ops.toList.take p)[y]?=some oy:=by rw [List.getElem?_take,if_pos hyp];exact hoyl
 have hstep:=zgb hs y oy hin s T w h.ext ⟨fun i hi=>h.t1 i (hon i hi).1 (hon i hi).2,fun i hi j hj hij=>h.t2 i j (hon i hi).1 (hon j hj).1 (hon i hi).2 (hon j hj).2 hij⟩
   (zeT fun e he hb=>h.q e.on (hedge e he hb).1 (hedge e he hb).2)
 have hdsy:zg7 ops.toList y=dy:=by
   unfold zg7
   rw [zbH,hoy]
   simp only [Option.bind_some,hdy]
 rw [zd4 h.env] at hstep
 simp only [Nat.zero_add,hdsy] at hstep
 exact hstep
theorem PInv.step (h:PInv ops p m Q s0 w0 (c1++y :: c2) listed s T w) (hp:zhM ops m p=true)
   (st:∀ i u u' T T' w1 w2,Ext w0 w1→Ext w1 w2→(∀ q∈zjI (zeN ops.toList 0 (ops.toList.take p)) i,u' q.2=u q.2∧T' q.1=T q.1)→Q i u T w1→Q i u' T' w2)
   (hun:listed.getD y true=false) (hoy:ops[y]?=some oy) (hdeps:∀ e∈oy.after,Region.binds .any e=true→listed.getD e.on false=true) (hdy:oy.dst=some dy)
   (hxx:Ext w w') (hQy:Q y (upd s dy v) (za3 T y (w.heap.size,w'.heap.size)) w') :
   PInv ops p m Q s0 w0 (c1++c2) (listed.setIfInBounds y true) (upd s dy v) (za3 T y (w.heap.size,w'.heap.size)) w':=by
 simp only [zhM,Bool.and_eq_true,List.all_eq_true] at hp
 obtain ⟨⟨⟨⟨⟨⟨p1,p2⟩,p3⟩,p4⟩,p5⟩,p6⟩,p7⟩:=hp
 have hdn:=zdn p2
 obtain ⟨hnd,hc,hlt,hso,hcl,ht,hx,henv,hT1,hT2,hQ⟩:=h
 have hys:y<ops.size:=(Array.getElem?_eq_some_iff.1 hoy).1
 have hylt:y<listed.size:=by rw [hcl.size];exact hys
 have hoyl:ops.toList[y]?=some oy:=by simpa using hoy
 have hyp:=hlt y (by simp)
 rw [List.append_assoc,List.cons_append] at hnd hc ht
 have hnd2:=hnd
 rw [List.nodup_append] at hnd2
 have hold:∀ j,y≠j→(listed.setIfInBounds y true).getD j false=true→listed.getD j false=true:=fun j hjy hj=>by rwa [getD_set_ne false hjy] at hj
 have hTy:za3 T y (w.heap.size,w'.heap.size) y=(w.heap.size,w'.heap.size):=by simp [za3]
 have hTo:∀ j,j≠y→za3 T y (w.heap.size,w'.heap.size) j=T j:=fun j hj=>by
   have:Nat.beq j y=false:=by rw [←Bool.not_eq_true,Nat.beq_eq];exact hj
   simp [za3,this]
 have hdyd:dy∈zga ops.toList:=List.mem_filterMap.2 ⟨oy,List.mem_of_getElem? hoyl,hdy⟩
 refine ⟨?_,?_,fun j hj=>hlt j (by rcases List.mem_append.1 hj with h | h<;>simp [h]),hso.sublist (List.Sublist.append_left (List.sublist_cons_self y _) c1),⟨by simp [hcl.size],?_⟩,?_,hx.trans hxx,fun t hm=>?_,?_,?_,?_⟩
 · rw [List.append_assoc]
   exact hnd.sublist (List.Sublist.append_left (List.sublist_cons_self y _) c1)
 · intro j
   rw [List.append_assoc]
   by_cases hjy:y=j
   · subst hjy
     have hnot:y∉c1++(c2++(List.range ops.size).drop p):=by
       intro hm
       rcases List.mem_append.1 hm with hm | hm
       · exact hnd2.2.2 y hm y (by simp) rfl
       exact (List.nodup_cons.1 hnd2.2.1).1 hm
     simp only [hnot,false_iff]
     simp [hylt]
   rw [getD_set_ne true hjy,←hc j]
   simp only [List.mem_append,List.mem_cons]
   constructor
   · rintro (h | h | h)
     · exact .inl h
     · exact .inr (.inr (.inl h))
     exact .inr (.inr (.inr h))
   rintro (h | h | h | h)
   · exact .inl h
   · exact absurd h.symm hjy
   · exact .inr (.inl h)
   exact .inr (.inr h)
 · intro j o ho hj e he hb
   by_cases hjy:y=j
   · subst hjy
     rw [hoy] at ho;cases ho
     exact getD_set_true (hdeps e he hb)
   rw [getD_set_ne false hjy] at hj
   exact getD_set_true (hcl.down j o ho hj e he hb)
 · rw [List.append_assoc];exact zhL ht
 · rw [zbc _ _ (fun e=>?_)]
   · exact henv t hm
   subst e;have:=p4 _ hdyd;rw [this] at hm;cases hm
 · intro j hjp hj
   by_cases hjy:j=y
   · rw [hjy,hTy];exact ⟨hx.size,hxx.size,Nat.le_refl _⟩
   rw [hTo j hjy]
   obtain ⟨h1,h2,h3⟩:=hT1 j hjp (hold j (fun e=>hjy e.symm) hj)
   exact ⟨h1,h2,Nat.le_trans h3 hxx.size⟩
 · intro i j hip hjp hi hj hij
   by_cases hiy:i=y
   · have hjy:¬j=y:=fun e=>hij (hiy.trans e.symm)
     rw [hiy,hTy,hTo j hjy]
     exact .inr (hT1 j hjp (hold j (fun e=>hjy e.symm) hj)).2.2
   by_cases hjy:j=y
   · rw [hjy,hTy,hTo i hiy]
     exact .inl (hT1 i hip (hold i (fun e=>hiy e.symm) hi)).2.2
   rw [hTo i hiy,hTo j hjy]
   exact hT2 i j hip hjp (hold i (fun e=>hiy e.symm) hi) (hold j (fun e=>hjy e.symm) hj) hij
 intro j hjp hj
 by_cases hjy:j=y
 · rw [hjy];exact hQy
 have hj':=hold j (fun e=>hjy e.symm) hj
 refine st j s _ T _ w w' hx hxx (fun q hq=>?_) (hQ j hjp hj')
 obtain ⟨h0,o,ho,h1⟩:=ziE hq
 have hol:ops.toList[j]?=some o:=by
   rw [List.getElem?_take,if_pos hjp] at ho
   exact ho
 have hoa:ops[j]?=some o:=by simpa using hol
 have hql:listed.getD q.1 false=true∧q.1<ops.size:=by
   rcases h1 with h1 | ⟨e,he,hb,h1⟩
   · rw [Nat.zero_add] at h1
     rw [h1]
     exact ⟨hj',(Array.getElem?_eq_some_iff.1 hoa).1⟩
   have:=hcl.down j o hoa hj' e (by simpa using he) hb
   rw [h1] at this
   refine ⟨this,?_⟩
   rcases Nat.lt_or_ge q.1 listed.size with h' | h'
   · rw [hcl.size] at h';exact h'
   simp [Array.getElem?_eq_none h'] at this
 have hqy:q.1≠y:=fun e=>by
   rw [e] at hql
   have h1:=hql.1
   simp [hylt] at h1 hun
   rw [h1] at hun;cases hun
 refine ⟨?_,hTo q.1 hqy⟩
 have hoq:ops.toList[q.1]?=some ops[q.1]:=by simp [hql.2]
 cases hdq:ops[q.1].dst with
 | none=>
   -- no slot: zg7 is 0 only where there is none
   exfalso
   have hqp:q.1<p:=by
     rcases h1 with h1 | ⟨e,he,hb,h1⟩
     · omega
     rcases Nat.lt_or_ge q.1 p with h' | h'
     · exact h'
     exfalso
     have h2:=(hc q.1).1 (List.mem_append_right _ (List.mem_cons_of_mem _ (List.mem_append_right _ (zdo.2 ⟨h',hql.2⟩))))
     have h3:q.1<listed.size:=by rw [hcl.size];exact hql.2
     have h4:=hql.1
     simp [h3] at h4 h2;rw [h4] at h2;cases h2
   have:=p5 ops[q.1] (List.mem_of_getElem? (l:=ops.toList.take p) (i:=q.1) (by rw [List.getElem?_take,if_pos hqp];exact hoq))
   rw [hdq] at this;cases this
 | some d=>
   have hdd:q.2=d:=by
     rw [h0];unfold zg7
     rw [zbH,Array.getElem?_eq_getElem hql.2]
     simp only [Option.bind_some,hdq]
   rw [hdd]
   have hne:d≠dy:=fun e=>hqy (zkJ hdn hoq hoyl hdq (e▸hdy))
   exact zbc _ _ hne
theorem zkK {P:Program} {ext:Xt} {K:Env→World→Prop} (hp:zhM ops m p=true)
   (st:∀ i u u' T T' w1 w2,Ext w0 w1→Ext w1 w2→(∀ q∈zjI (zeN ops.toList 0 (ops.toList.take p)) i,u' q.2=u q.2∧T' q.1=T q.1)→Q i u T w1→Q i u' T' w2)
   (hs:zd2 P ext ops.toList m s0 w0 Q 0 (ops.toList.take p))
   (hf:∀ (u:Env) (T:Nat→Nat×Nat) (w1:World),Ext w0 w1→zau (List.range p) w0.heap.size w1.heap.size T→zf9 Q u T w1 0 p→zeM P ext ops.toList 0 K ((List.range ops.toList.length).drop p) (mix m s0 u) w1) :
   ∀ (c:List Nat) (listed:Array Bool) (s:Env) (T:Nat→Nat×Nat) (w:World),PInv ops p m Q s0 w0 c listed s T w→(∀ i∈c,∃ o,ops[i]?=some o∧zcj o=true) →
     zeM P ext ops.toList 0 K (c++(List.range ops.size).drop p) s w:=by
 have hp':=hp
 simp only [zhM,Bool.and_eq_true,List.all_eq_true] at hp'
 obtain ⟨⟨⟨⟨⟨⟨p1,p2⟩,p3⟩,p4⟩,p5⟩,p6⟩,p7⟩:=hp'
 have hpn:p≤ops.size:=Nat.le_of_ble_eq_true p1
 intro c
 induction c with
 | nil=>
   intro listed s T w h _
   have hall:∀ j,j<p→listed.getD j false=true:=fun j hj=>by
     have h2:¬listed.getD j true=false:=fun e=>by
       have:=(h.mem j).2 e
       rw [List.nil_append] at this
       have:=(zdo.1 this).1
       omega
     have h3:j<listed.size:=by rw [h.closed.size];omega
     simp [h3] at h2 ⊢
     exact h2
   have hv:=hf s T w h.ext ⟨fun i hi=>h.t1 i (List.mem_range.1 hi) (hall i (List.mem_range.1 hi)),fun i hi j hj hij=>h.t2 i j (List.mem_range.1 hi) (List.mem_range.1 hj) (hall i (List.mem_range.1 hi)) (hall j (List.mem_range.1 hj)) hij⟩
     (zgc fun i hi=>by rw [Nat.zero_add];exact h.q i hi (hall i hi))
   rw [zd4 h.env,show ops.toList.length=ops.size by simp] at hv
   exact hv
 | cons y c2 ih=>
   intro listed s T w h hpu
   obtain ⟨⟨oy,hoy,hdeps⟩,_⟩:=h.top
   obtain ⟨o',ho',hpy⟩:=hpu y (by simp)
   have:o'=oy:=by rw [hoy] at ho';cases ho';rfl
   subst this
   have hyp:=h.lt y (by simp)
   have hoyl:ops.toList[y]?=some o':=by simpa using hoy
   have hin:(ops.toList.take p)[y]?=some o':=by rw [List.getElem?_take,if_pos hyp];exact hoyl
   obtain ⟨dy,hdy⟩:=Option.isSome_iff_exists.1 (p5 o' (List.mem_of_getElem? hin))
   have hgy:o'.guard=none:=by
     have:=p3 o' (List.mem_of_getElem? hoyl)
     simpa using this
   have hun:listed.getD y true=false:=(h.mem y).1 (by simp)
   have hstep:=h.ready hs hp hyp hoy hdeps hdy
   obtain ⟨v,hv,hxx,hQy⟩:=(zeQ (zdO hpy)).1 hstep
   rw [List.cons_append]
   unfold zeM
   rw [zbN (o:=o') (by rw [zbH];exact hoy)]
   refine ⟨true,by unfold gOk;rw [hgy],?_⟩
   simp only [if_true]
   unfold opF
   have hm0:zaN 0 y=false:=by rw [zc4];simp
   rw [hm0]
   refine (zeQ (zdO hpy)).2 ⟨v,hv,?_⟩
   have hput:put s o'.dst v=upd s dy v:=by rw [hdy];rfl
   rw [hput]
   exact ih _ _ _ _ (PInv.step (c1:=[]) h hp st hun hoy hdeps hdy hxx hQy) fun i hi=>hpu i (by simp [hi])
end
theorem ziF {ops:Array Oper} {p:Nat} (p7:∀ k∈List.range ops.size,∀ i∈List.range k,zrM ops (zot ops.toList) p i k=true) {c:List Nat} (hlt:∀ j∈c,j<p) (hso:c.Pairwise (· < ·)) (hall:∀ i∈c,∃ o,ops[i]?=some o∧zcj o=true) :
   zep ops (zot ops.toList) 0 (c++(List.range ops.size).drop p)=true:=by
 have hpw:(c++(List.range ops.size).drop p).Pairwise (· < ·):=by
   rw [List.pairwise_append]
   exact ⟨hso,List.Pairwise.sublist (List.drop_sublist _ _) List.pairwise_lt_range,fun i hi j hj=>by have:=hlt i hi;have:=(zdo.1 hj).1;omega⟩
 have hsz:∀ j∈c++(List.range ops.size).drop p,j<ops.size:=fun j hj=>by
   rcases List.mem_append.1 hj with h | h
   · obtain ⟨o,ho,_⟩:=hall j h;exact (Array.getElem?_eq_some_iff.1 ho).1
   exact (zdo.1 h).2
 have key:∀ i∈c++(List.range ops.size).drop p,∀ j∈c++(List.range ops.size).drop p,i<j→zmy ops (zot ops.toList) 0 i j=true:=by
   intro i hi j hj hij
   have hA:=p7 j (List.mem_range.2 (hsz j hj)) i (List.mem_range.2 hij)
   have h0:zaN 0 i=false:=by rw [zc4];simp
   unfold zrM at hA
   unfold zmy
   rw [Bool.or_eq_true] at hA ⊢
   refine hA.imp id fun hA=>?_
   cases hoi:nth ops.toList i with
   | none=>simp [hoi] at hA
   | some oi=>
     cases hoj:nth ops.toList j with
     | none=>simp [hoi,hoj] at hA
     | some oj=>
       simp only [hoi,hoj] at hA ⊢
       cases hb:Nat.ble p j with
       | true=>
         simp only [hb,cond_true,Bool.and_eq_true] at hA
         simp [zdO hA.2.1,h0,hA.2.1,hA.2.2]
       | false=>
         have hjp:j<p:=by
           rcases Nat.lt_or_ge j p with h | h
           · exact h
           rw [Nat.ble_eq_true_of_le h] at hb;cases hb
         have mem:∀ q∈c++(List.range ops.size).drop p,q<p→q∈c:=fun q hq hqp=>by
           rcases List.mem_append.1 hq with h | h
           · exact h
           have:=(zdo.1 h).1;omega
         obtain ⟨o1,ho1,hp1⟩:=hall i (mem i hi (by omega))
         obtain ⟨o2,ho2,hp2⟩:=hall j (mem j hj hjp)
         rw [zbH,ho1] at hoi
         rw [zbH,ho2] at hoj
         cases hoi;cases hoj
         simp only [hb,cond_false,hp1,hp2,Bool.and_self,Bool.not_true,Bool.false_or] at hA
         simp [zdO hp1,zdO hp2,h0,hA]
 generalize c++(List.range ops.size).drop p=l at hpw key
 clear hsz
 induction l with
 | nil=>rfl
 | cons x r ih=>
   rw [List.pairwise_cons] at hpw
   simp only [zep,Bool.and_eq_true,List.all_eq_true]
   exact ⟨fun j hj=>key x (by simp) j (by simp [hj]) (hpw.1 j hj),ih hpw.2 fun i hi j hj=>key i (by simp [hi]) j (by simp [hj])⟩
section
variable {P:Program} {ext:Xt} {N n:Nat} (hE:∀ f,f<N→ext.l.elem f=false→zcC P f=true)
include hE
theorem zmz {ops:Array Oper} {m p:Nat} {K:Env→World→Prop} {QQ:Exit→Act→World→Prop} (hok:zjM ext.l N n ops.toList=true) (hp:zhM ops m p=true)
   {a0:Act} {w0:World} {Q:ParQ} (st:∀ i u u' T T' w1 w2,Ext w0 w1→Ext w1 w2→(∀ q∈zjI (zeN ops.toList 0 (ops.toList.take p)) i,u' q.2=u q.2∧T' q.1=T q.1)→Q i u T w1→Q i u' T' w2) (hs:zd2 P ext ops.toList m (zaH a0) w0 Q 0 (ops.toList.take p))
   (hf:∀ (u:Env) (T:Nat→Nat×Nat) (w1:World),Ext w0 w1→zau (List.range p) w0.heap.size w1.heap.size T→zf9 Q u T w1 0 p→zeM P ext ops.toList 0 K ((List.range ops.toList.length).drop p) (mix m (zaH a0) u) w1)
   (hq:∀ a' w',Kept n (zga ops.toList) a0 a'→K (zaH a') w'→QQ .normal a' w') :
   ∀ (k:Nat) (c:List Nat) (listed:Array Bool) (a:Act) (w:World) (T:Nat→Nat×Nat),c.length=k→PInv ops p m Q (zaH a0) w0 c listed (zaH a) T w→a.tmps.size=n→Kept n (zga ops.toList) a0 a →
     wpAny P .any ops QQ (k+((List.range ops.size).drop p).length) listed a w:=by
 have hp':=hp
 simp only [zhM,Bool.and_eq_true,List.all_eq_true] at hp'
 obtain ⟨⟨⟨⟨⟨⟨p1,p2⟩,p3⟩,p4⟩,p5⟩,p6⟩,p7⟩:=hp'
 have hpn:p≤ops.size:=Nat.le_of_ble_eq_true p1
 intro k
 induction k with
 | zero=>
   intro c listed a w T hl h hn hk
   have hnil:c=[]:=List.eq_nil_of_length_eq_zero hl
   subst hnil
   have hv:=zkK (P:=P) (ext:=ext) hp st hs hf [] listed (zaH a) T w h (by simp)
   refine zfp hE hok _ _ listed a w (by simp) h.nodup h.mem h.closed h.top ?_ hn hv fun a' w' hk' hh=>hq a' w' (hk.trans hk' (fun _ h=>h) (fun _ h=>h)) hh
   exact ziF p7 (c:=[]) (by simp) (by simp) (by simp)
 | succ k ih=>
   intro c listed a w T hl h hn hk
   by_cases hall:∀ i∈c,∃ o,ops[i]?=some o∧zcj o=true
   · have hv:=zkK (P:=P) (ext:=ext) hp st hs hf c listed (zaH a) T w h hall
     refine zfp hE hok _ _ listed a w (by simp [hl]) h.nodup h.mem h.closed h.top ?_ hn hv fun a' w' hk' hh=>hq a' w' (hk.trans hk' (fun _ h=>h) (fun _ h=>h)) hh
     exact ziF p7 h.lt h.sorted hall
   rw [show k+1+((List.range ops.size).drop p).length=(k+((List.range ops.size).drop p).length)+1 by omega]
   refine ⟨fun hnone=>?_,fun y hy=>?_⟩
   · cases c with
     | nil=>simp at hl
     | cons i r=>
       obtain ⟨⟨o,ho,hd⟩,_⟩:=h.top
       have:i∈Region.ready .any ops listed:=mem_ready.2 ⟨(h.mem i).1 (by simp),o,ho,hd⟩
       rw [hnone] at this;cases this
   obtain ⟨hun,oy,hoy,hdeps⟩:=mem_ready.1 hy
   have hym:y∈c++(List.range ops.size).drop p:=(h.mem y).2 hun
   have hoyl:ops.toList[y]?=some oy:=by simpa using hoy
   have hys:y<ops.size:=(Array.getElem?_eq_some_iff.1 hoy).1
   have hyc:y∈c:=by
     rcases List.mem_append.1 hym with h1 | h1
     · exact h1
     exfalso
     refine hall fun i hi=>?_
     have hip:=h.lt i hi
     have hyp:=(zdo.1 h1).1
     have hA:=p7 y (List.mem_range.2 hys) i (List.mem_range.2 (by omega))
     unfold zrM at hA
     rw [Bool.or_eq_true] at hA
     rcases hA with hA | hA
     · exfalso
       rw [zc4] at hA
       have h1:=zhf h.closed y oy hoy hdeps i hA
       have h2:=(h.mem i).1 (List.mem_append_left _ hi)
       rcases Nat.lt_or_ge i listed.size with h' | h'
       · simp [h'] at h1 h2;rw [h1] at h2;cases h2
       simp [Array.getElem?_eq_none h'] at h1
     have hb:Nat.ble p y=true:=Nat.ble_eq_true_of_le hyp
     cases hoi:nth ops.toList i with
     | none=>simp [hoi] at hA
     | some oi=>
       rw [hoi,zbH,hoy] at hA
       simp only [hb,cond_true,Bool.and_eq_true] at hA
       have hoi':=hoi
       rw [zbH] at hoi'
       exact ⟨oi,hoi',hA.2.1⟩
   have hyp:=h.lt y hyc
   obtain ⟨c1,c2,rfl⟩:=List.append_of_mem hyc
   have hoy':nth ops.toList y=some oy:=by rw [zbH];exact hoy
   have hgy:oy.guard=none:=by
     have:=p3 oy (List.mem_of_getElem? hoyl)
     simpa using this
   have hin:(ops.toList.take p)[y]?=some oy:=by rw [List.getElem?_take,if_pos hyp];exact hoyl
   obtain ⟨dy,hdy⟩:=Option.isSome_iff_exists.1 (p5 oy (List.mem_of_getElem? hin))
   have hstep:=h.ready hs hp hyp hoy hdeps hdy
   have h':zdL P ext ops.toList 0 y (zaH a) w (fun s' w'=>∃ v,s'=put (zaH a) oy.dst v∧Ext w w'∧Q y (upd (zaH a) dy v) (za3 T y (w.heap.size,w'.heap.size)) w'):=by
     rw [zbN hoy']
     refine ⟨true,by unfold gOk;rw [hgy],?_⟩
     simp only [if_true]
     unfold opF
     have:zaN 0 y=false:=by rw [zc4];simp
     rw [this]
     exact zeP (fun v w' hh=>⟨v,rfl,hh.1,hh.2⟩) hstep
   refine zdm hE hok hn h' fun a' w' hk' ⟨v,hv,hxx,hQy⟩=>?_
   refine ih (c1++c2) (listed.setIfInBounds y true) a' w' (za3 T y (w.heap.size,w'.heap.size)) (by simp at hl ⊢;omega) ?_ hk'.size (hk.trans hk' (fun _ h=>h) (fun _ h=>h))
   have hput:zaH a'=upd (zaH a) dy v:=by rw [hv,hdy];rfl
   rw [hput]
   exact h.step hp st hun hoy hdeps hdy hxx hQy
end
def zhg (ops:Array Oper) (m:Nat):Bool:=
 zhe (zga ops.toList)&&(ops.toList.all fun o=>o.guard.isNone)&&((zga ops.toList).all fun t=>zaN m t)&&zq3 ops.toList [] (List.range ops.size)
theorem zfL {P:Program} {ext:Xt} {m:Nat} {s:Env} {w:World} {B:World→Prop} {R:Nat→World→World→Prop} {Q:ParQ}:∀ {l:List Oper} {k:Nat},zdM P ext m s w B R Q k l →
   ∀ i o,l[i]?=some o→∀ (u:Env) (T:Nat→Nat×Nat) (w1:World),B w1→w.heap.size≤w1.heap.size→zau (onL o.after.toList) w.heap.size w1.heap.size T→zfK Q u T w1 o.after.toList →
     opK P ext o (ev (mix m s u)) w1 (fun v w2=>R (k+i) w1 w2∧Q (k+i) (put u o.dst v) (za3 T (k+i) (w1.heap.size,w2.heap.size)) w2)
 | [],_,_,i,o,ho=>by simp at ho
 | x :: l,k,h,0,o,ho=>by
   simp only [List.getElem?_cons_zero,Option.some.injEq] at ho
   subst ho
   exact h.1
 | x :: l,k,h,i+1,o,ho=>by
   have:=zfL h.2 i o (by simpa using ho)
   rwa [show k+(i+1)=k+1+i by omega]
theorem zhh {ol:List Oper} {j:Nat} {p:Nat×Nat} (h:p∈zkG ol j):p.1=j∧∃ o,ol[j]?=some o∧o.dst=some p.2:=by
 unfold zkG at h
 rw [zeo] at h
 cases ho:ol[j]? with
 | none=>simp [ho] at h
 | some o=>
   cases hd:o.dst with
   | none=>simp [ho,hd] at h
   | some d=>
     simp [ho,hd] at h
     subst h
     exact ⟨rfl,o,rfl,hd⟩
theorem zhO {ol:List Oper}:∀ {l:List Edge} {p:Nat×Nat},p∈zq1 ol l→(∃ o,ol[p.1]?=some o∧o.dst=some p.2)∧∃ e∈l,Region.binds .any e=true∧e.on=p.1
 | [],_,h=>by simp [zq1] at h
 | e :: l,p,h=>by
   simp only [zq1] at h
   cases hb:Region.binds .any e
   · rw [hb] at h
     obtain ⟨h0,x,hx,h2⟩:=zhO (l:=l) h
     exact ⟨h0,x,by simp [hx],h2⟩
   rw [hb] at h
   simp only [cond_true,List.mem_append] at h
   rcases h with h | h
   · obtain ⟨h1,h2⟩:=zhh h
     exact ⟨by rw [h1];exact h2,e,by simp,hb,h1.symm⟩
   obtain ⟨h0,x,hx,h2⟩:=zhO (l:=l) h
   exact ⟨h0,x,by simp [hx],h2⟩
theorem zkL {ol:List Oper}:∀ {l:List Oper} {k i:Nat} {p:Nat×Nat},p∈zjI (ziB ol k l) i→(∃ o,ol[p.1]?=some o∧o.dst=some p.2)∧∃ o,l[i]?=some o∧(p.1=k+i∨∃ e∈o.after.toList,Region.binds .any e=true∧e.on=p.1)
 | [],_,_,_,h=>by simp [ziB,zjI,nth] at h
 | o :: l,k,0,p,h=>by
   simp only [ziB,zjI,nth,List.mem_append] at h
   rcases h with h | h
   · obtain ⟨h1,h2⟩:=zhh h
     exact ⟨by rw [h1];exact h2,o,rfl,.inl h1⟩
   obtain ⟨h0,h1⟩:=zhO h
   exact ⟨h0,o,rfl,.inr h1⟩
 | o :: l,k,i+1,p,h=>by
   have h':p∈zjI (ziB ol (k+1) l) i:=h
   obtain ⟨h0,o',ho,h1⟩:=zkL h'
   exact ⟨h0,o',by simpa using ho,h1.imp (fun e=>by omega) id⟩
structure GInv (ops:Array Oper) (m:Nat) (B:World→Prop) (Q:ParQ) (s0:Env) (w0:World) (c:List Nat) (listed:Array Bool) (s:Env) (T:Nat→Nat×Nat) (w:World):Prop where
 nodup:c.Nodup
 mem:∀ j,j∈c↔listed.getD j true=false
 closed:Closed ops listed
 top:Top ops listed c
 base:B w
 sz:w0.heap.size≤w.heap.size
 env:∀ t,zaN m t=false→s t=s0 t
 t1:∀ j,listed.getD j false=true→w0.heap.size≤(T j).1∧(T j).1≤(T j).2∧(T j).2≤w.heap.size
 t2:∀ i j,listed.getD i false=true→listed.getD j false=true→i≠j→(T i).2≤(T j).1∨(T j).2≤(T i).1
 q:∀ j,listed.getD j false=true→Q j s T w
section
variable {ops:Array Oper} {m:Nat} {B:World→Prop} {R:Nat→World→World→Prop} {Q:ParQ} {s0 s:Env} {w0 w w':World} {c c1 c2:List Nat} {listed:Array Bool} {T:Nat→Nat×Nat} {y:Nat} {oy:Oper} {v:Value}
theorem GInv.ready (h:GInv ops m B Q s0 w0 c listed s T w) {P:Program} {ext:Xt} (hs:zdM P ext m s0 w0 B R Q 0 ops.toList)
   (hoy:ops[y]?=some oy) (hdeps:∀ e∈oy.after,Region.binds .any e=true→listed.getD e.on false=true) :
   opK P ext oy (ev s) w (fun v w2=>R y w w2∧Q y (put s oy.dst v) (za3 T y (w.heap.size,w2.heap.size)) w2):=by
 have hon:∀ i∈onL oy.after.toList,listed.getD i false=true:=fun i hi=>by
   obtain ⟨e,he,hb,rfl⟩:=zhN hi
   exact hdeps e (by simpa using he) hb
 have hstep:=zfL hs y oy (by simpa using hoy) s T w h.base h.sz ⟨fun i hi=>h.t1 i (hon i hi),fun i hi j hj hij=>h.t2 i j (hon i hi) (hon j hj) hij⟩
   (zeT fun e he hb=>h.q e.on (hdeps e (by simpa using he) hb))
 rw [zd4 h.env] at hstep
 simp only [Nat.zero_add] at hstep
 exact hstep
theorem GInv.step (h:GInv ops m B Q s0 w0 (c1++y :: c2) listed s T w) (hp:zhg ops m=true)
   (bs:∀ j w1 w2,B w1→R j w1 w2→B w2) (sz:∀ j w1 w2,R j w1 w2→w1.heap.size≤w2.heap.size)
   (st:∀ i j u u' T T' w1 w2,i≠j→B w1→R j w1 w2→(∀ q∈zjI (ziB ops.toList 0 ops.toList) i,u' q.2=u q.2∧T' q.1=T q.1)→Q i u T w1→Q i u' T' w2)
   (hun:listed.getD y true=false) (hoy:ops[y]?=some oy) (hdeps:∀ e∈oy.after,Region.binds .any e=true→listed.getD e.on false=true)
   (hR:R y w w') (hQy:Q y (put s oy.dst v) (za3 T y (w.heap.size,w'.heap.size)) w') :
   GInv ops m B Q s0 w0 (c1++c2) (listed.setIfInBounds y true) (put s oy.dst v) (za3 T y (w.heap.size,w'.heap.size)) w':=by
 simp only [zhg,Bool.and_eq_true,List.all_eq_true] at hp
 obtain ⟨⟨⟨p2,p3⟩,p4⟩,p6⟩:=hp
 have hdn:=zdn p2
 obtain ⟨hnd,hc,hcl,ht,hB,hsz,henv,hT1,hT2,hQ⟩:=h
 have hys:y<ops.size:=(Array.getElem?_eq_some_iff.1 hoy).1
 have hylt:y<listed.size:=by rw [hcl.size];exact hys
 have hoyl:ops.toList[y]?=some oy:=by simpa using hoy
 have hnd2:=hnd
 rw [List.nodup_append] at hnd2
 have hold:∀ j,y≠j→(listed.setIfInBounds y true).getD j false=true→listed.getD j false=true:=fun j hjy hj=>by rwa [getD_set_ne false hjy] at hj
 have hTy:za3 T y (w.heap.size,w'.heap.size) y=(w.heap.size,w'.heap.size):=by simp [za3]
 have hTo:∀ j,j≠y→za3 T y (w.heap.size,w'.heap.size) j=T j:=fun j hj=>by
   have:Nat.beq j y=false:=by rw [←Bool.not_eq_true,Nat.beq_eq];exact hj
   simp [za3,this]
 have hszy:=sz y w w' hR
 refine ⟨?_,?_,⟨by simp [hcl.size],?_⟩,zhL ht,bs y w w' hB hR,Nat.le_trans hsz hszy,fun t hm=>?_,?_,?_,?_⟩
 · exact hnd.sublist (List.Sublist.append_left (List.sublist_cons_self y _) c1)
 · intro j
   by_cases hjy:y=j
   · subst hjy
     have hnot:y∉c1++c2:=by
       intro hm
       rcases List.mem_append.1 hm with hm | hm
       · exact hnd2.2.2 y hm y (by simp) rfl
       exact (List.nodup_cons.1 hnd2.2.1).1 hm
     simp only [hnot,false_iff]
     simp [hylt]
   rw [getD_set_ne true hjy,←hc j]
   simp only [List.mem_append,List.mem_cons]
   constructor
   · rintro (h | h)
     · exact .inl h
     exact .inr (.inr h)
   rintro (h | h | h)
   · exact .inl h
   · exact absurd h.symm hjy
   exact .inr h
 · intro j o ho hj e he hb
   by_cases hjy:y=j
   · subst hjy
     rw [hoy] at ho;cases ho
     exact getD_set_true (hdeps e he hb)
   rw [getD_set_ne false hjy] at hj
   exact getD_set_true (hcl.down j o ho hj e he hb)
 · cases hdy:oy.dst with
   | none=>exact henv t hm
   | some dy=>
     show upd s dy v t=s0 t
     rw [zbc _ _ (fun e=>?_)]
     · exact henv t hm
     subst e
     have:=p4 _ (List.mem_filterMap.2 ⟨oy,List.mem_of_getElem? hoyl,hdy⟩)
     rw [this] at hm;cases hm
 · intro j hj
   by_cases hjy:j=y
   · rw [hjy,hTy];exact ⟨hsz,hszy,Nat.le_refl _⟩
   rw [hTo j hjy]
   obtain ⟨h1,h2,h3⟩:=hT1 j (hold j (fun e=>hjy e.symm) hj)
   exact ⟨h1,h2,Nat.le_trans h3 hszy⟩
 · intro i j hi hj hij
   by_cases hiy:i=y
   · have hjy:¬j=y:=fun e=>hij (hiy.trans e.symm)
     rw [hiy,hTy,hTo j hjy]
     exact .inr (hT1 j (hold j (fun e=>hjy e.symm) hj)).2.2
   by_cases hjy:j=y
   · rw [hjy,hTy,hTo i hiy]
     exact .inl (hT1 i (hold i (fun e=>hiy e.symm) hi)).2.2
   rw [hTo i hiy,hTo j hjy]
   exact hT2 i j (hold i (fun e=>hiy e.symm) hi) (hold j (fun e=>hjy e.symm) hj) hij
 intro j hj
 by_cases hjy:j=y
 · rw [hjy];exact hQy
 have hj':=hold j (fun e=>hjy e.symm) hj
 refine st j y s _ T _ w w' hjy hB hR (fun q hq=>?_) (hQ j hj')
 obtain ⟨⟨oq,hoq,hdq⟩,o,ho,h1⟩:=zkL hq
 have hoa:ops[j]?=some o:=by simpa using ho
 have hql:listed.getD q.1 false=true:=by
   rcases h1 with h1 | ⟨e,he,hb,h1⟩
   · rw [Nat.zero_add] at h1
     rw [h1];exact hj'
   have:=hcl.down j o hoa hj' e (by simpa using he) hb
   rw [h1] at this
   exact this
 have hqy:q.1≠y:=fun e=>by
   rw [e] at hql
   simp [hylt] at hql hun
   rw [hql] at hun;cases hun
 refine ⟨?_,hTo q.1 hqy⟩
 cases hdy:oy.dst with
 | none=>rfl
 | some dy=>
   show upd s dy v q.2=s q.2
   exact zbc _ _ fun e=>hqy (zkJ hdn hoq hoyl hdq (e▸hdy))
end
section
variable {P:Program} {ext:Xt} {N n:Nat} (hE:∀ f,f<N→ext.l.elem f=false→zcC P f=true)
include hE
theorem zlK {ops:Array Oper} {m:Nat} {K:Env→World→Prop} {QQ:Exit→Act→World→Prop} (hok:zjM ext.l N n ops.toList=true) (hp:zhg ops m=true)
   {a0:Act} {w0:World} {B:World→Prop} {R:Nat→World→World→Prop} {Q:ParQ} (bs:∀ j w1 w2,B w1→R j w1 w2→B w2) (sz:∀ j w1 w2,R j w1 w2→w1.heap.size≤w2.heap.size)
   (st:∀ i j u u' T T' w1 w2,i≠j→B w1→R j w1 w2→(∀ q∈zjI (ziB ops.toList 0 ops.toList) i,u' q.2=u q.2∧T' q.1=T q.1)→Q i u T w1→Q i u' T' w2) (hs:zdM P ext m (zaH a0) w0 B R Q 0 ops.toList)
   (hf:∀ (u:Env) (T:Nat→Nat×Nat) (w1:World),B w1→w0.heap.size≤w1.heap.size→zau (List.range ops.toList.length) w0.heap.size w1.heap.size T→zf9 Q u T w1 0 ops.toList.length→K (mix m (zaH a0) u) w1)
   (hq:∀ a' w',Kept n (zga ops.toList) a0 a'→K (zaH a') w'→QQ .normal a' w') :
   ∀ (k:Nat) (c:List Nat) (listed:Array Bool) (a:Act) (w:World) (T:Nat→Nat×Nat),c.length=k→GInv ops m B Q (zaH a0) w0 c listed (zaH a) T w→a.tmps.size=n→Kept n (zga ops.toList) a0 a →
     wpAny P .any ops QQ k listed a w:=by
 have hp':=hp
 simp only [zhg,Bool.and_eq_true,List.all_eq_true] at hp'
 obtain ⟨⟨⟨p2,p3⟩,p4⟩,p6⟩:=hp'
 intro k
 induction k with
 | zero=>
   intro c listed a w T hl h hn hk
   have hnil:c=[]:=List.eq_nil_of_length_eq_zero hl
   subst hnil
   have hall:∀ j,j<ops.size→listed.getD j false=true:=fun j hj=>by
     have h2:¬listed.getD j true=false:=fun e=>by simpa using (h.mem j).2 e
     have h3:j<listed.size:=by rw [h.closed.size];omega
     simp [h3] at h2 ⊢
     exact h2
   have hv:=hf (zaH a) T w h.base h.sz ⟨fun i hi=>h.t1 i (hall i (by simpa using hi)),fun i hi j hj hij=>h.t2 i j (hall i (by simpa using hi)) (hall j (by simpa using hj)) hij⟩
     (zgc fun i hi=>by rw [Nat.zero_add];exact h.q i (hall i (by simpa using hi)))
   rw [zd4 h.env] at hv
   refine ⟨?_,hq a w hk hv⟩
   rw [List.eq_nil_iff_forall_not_mem]
   intro j hj
   exact absurd ((h.mem j).2 (mem_ready.1 hj).1) (by simp)
 | succ k ih=>
   intro c listed a w T hl h hn hk
   refine ⟨fun hnone=>?_,fun y hy=>?_⟩
   · cases c with
     | nil=>simp at hl
     | cons i r=>
       obtain ⟨⟨o,ho,hd⟩,_⟩:=h.top
       have:i∈Region.ready .any ops listed:=mem_ready.2 ⟨(h.mem i).1 (by simp),o,ho,hd⟩
       rw [hnone] at this;cases this
   obtain ⟨hun,oy,hoy,hdeps⟩:=mem_ready.1 hy
   have hyc:y∈c:=(h.mem y).2 hun
   have hoyl:ops.toList[y]?=some oy:=by simpa using hoy
   obtain ⟨c1,c2,rfl⟩:=List.append_of_mem hyc
   have hoy':nth ops.toList y=some oy:=by rw [zbH];exact hoy
   have hgy:oy.guard=none:=by
     have:=p3 oy (List.mem_of_getElem? hoyl)
     simpa using this
   have hstep:=h.ready hs hoy hdeps
   have h':zdL P ext ops.toList 0 y (zaH a) w (fun s' w'=>∃ v,s'=put (zaH a) oy.dst v∧R y w w'∧Q y (put (zaH a) oy.dst v) (za3 T y (w.heap.size,w'.heap.size)) w'):=by
     rw [zbN hoy']
     refine ⟨true,by unfold gOk;rw [hgy],?_⟩
     simp only [if_true]
     unfold opF
     have:zaN 0 y=false:=by rw [zc4];simp
     rw [this]
     exact zeP (fun v w' hh=>⟨v,rfl,hh.1,hh.2⟩) hstep
   refine zdm hE hok hn h' fun a' w' hk' ⟨v,hv,hR,hQy⟩=>?_
   refine ih (c1++c2) (listed.setIfInBounds y true) a' w' (za3 T y (w.heap.size,w'.heap.size)) (by simp at hl ⊢;omega) ?_ hk'.size (hk.trans hk' (fun _ h=>h) (fun _ h=>h))
   rw [hv]
   exact h.step hp bs sz st hun hoy hdeps hR hQy
end
def wrs:Code→List Nat
 | .region _ ops _=>zga ops.toList
 | .seq a b=>wrs a++wrs b
 | .cond _ a b=>wrs a++wrs b
 | .block _ c=>wrs c
 | .loop c=>wrs c
 | _=>[]
def okC (g:Cfg) (N n:Nat):Code→Bool
 | .skip=>true
 | .region id ops d=>zjM g.ext N n ops.toList&&(bif d then (match find g.gpars id with | some m=>zhg ops m | none=>match find g.pars id with | some (m,p)=>zhM ops m p | none=>match find g.draws id with | some (l,fl)=>zpu ops l fl | none=>true) else true)
 | .seq a b=>okC g N n a&&okC g N n b&&(match (za7 b).bind (find g.joins) with | some (m,_)=>(wrs a).all fun t=>zaN m t | none=>true)
 | .cond _ a b=>okC g N n a&&okC g N n b
 | .block _ c=>okC g N n c
 | .loop c=>okC g N n c&&(match (za7 c).bind (find g.loops) with | some (m,_)=>(wrs c).all fun t=>zaN m t | none=>true)
 | .exit _=>true
 | .ret=>true
 | _=>true
theorem zkM {s:Env} {c:Operand} {b:Bool} (h:ev s c=.bool b):lit s c b=s:=by
 cases c with
 | tmp t=>exact zdl h
 | _=>rfl
theorem zhP {P:Program} {Q:Exit→Act→World→Prop} {c:Code} (I:Nat→Act→World→Prop) (m:Nat) {a:Act} {w:World} (h₀:I m a w)
   (round:∀ m a w,I m a w→c.wp P (Exit.then (fun a' w'=>∃ m',m'<m∧I m' a' w') Q) a w):(Code.loop c).wp P Q a w:=by
 intro b k cs
 have key:∀ n a w,I n a w→∃ e a' w',Q e a' w'∧Arrives P (lone (b.at a (.code c :: .inLoop c :: k)) cs w) b k cs e a' w':=by
   intro n
   induction n using Nat.strongRecOn with
   | _ n ih=>
     intro a w hI
     obtain ⟨e,a₁,w₁,hq,harr⟩:=round n a w hI b (.inLoop c :: k) cs
     cases e with
     | normal=>
       obtain ⟨m',hlt,hI₁⟩:=hq
       obtain ⟨e₂,a₂,w₂,hq₂,harr₂⟩:=ih m' hlt a₁ w₁ hI₁
       exact ⟨e₂,a₂,w₂,hq₂,.of_steps (Steps.trans harr (.one step_inLoop)) harr₂⟩
     | exit id=>exact ⟨_,a₁,w₁,hq,.pass (x:=.inLoop c) rfl (fun _ _=>.inl (by simp)) harr⟩
     | goto l=>exact ⟨_,a₁,w₁,hq,.pass (x:=.inLoop c) rfl (fun _ _=>.inl (by simp)) harr⟩
     | ret=>exact ⟨_,a₁,w₁,hq,.pass (x:=.inLoop c) rfl (fun _ _=>.inl (by simp)) harr⟩
     | panic ch=>exact ⟨_,a₁,w₁,hq,.pass (x:=.inLoop c) rfl (fun _ _=>.inl (by simp)) harr⟩
     | outgrown=>exact ⟨_,a₁,w₁,hq,.pass (x:=.inLoop c) rfl (fun _ _=>.inl (by simp)) harr⟩
 obtain ⟨e,a',w',hq,harr⟩:=key m a w h₀
 exact ⟨e,a',w',hq,.of_steps (.one step_loop) harr⟩
section
variable {P:Program} {g:Cfg} {N n:Nat} (hE:∀ f,f<N→g.ext.elem f=false→zcC P f=true) (hm:P.follows .mixedOrders=true)
include hE hm
theorem zou:∀ (c:Code),okC g N n c=true→∀ (a:Act) (w:World) (K:Exit→Env→World→Prop),a.tmps.size=n→vc P g c (zaH a) w K →
   c.wp P (fun e a' w'=>K e (zaH a') w'∧Kept n (wrs c) a a') a w:=by
 intro c
 induction c with
 | skip=>intro _ a w K hn h;exact wp_skip ⟨h,.refl _ hn⟩
 | ret=>intro _ a w K hn h;exact wp_ret ⟨h,.refl _ hn⟩
 | exit id=>intro _ a w K hn h;exact wp_exit ⟨h,.refl _ hn⟩
 | region id ops d=>
   intro hok a w K hn h
   simp only [okC,Bool.and_eq_true] at hok
   cases d with
   | false=>exact wp_region (zjN hE hok.1 _ a w hn h fun a' w' hk hh=>⟨hh,hk⟩)
   | true=>
     simp only [vc] at h
     cases hgd:find g.gpars id with
     | some mm=>
      simp only [hgd] at h
      have ho:=hok.2
      simp only [hgd,cond_true] at ho
      obtain ⟨B,R,Q,hb,bs,sz,st,h1,h2⟩:=h
      have ho':=ho
      simp only [zhg,Bool.and_eq_true,List.all_eq_true] at ho'
      have htop:=ho'.2
      have key:=zlK (Q:=Q) (QQ:=fun e a' w'=>K e (zaH a') w'∧Kept n (zga ops.toList) a a') hE hok.1 ho bs sz st h1 h2 (fun a' w' hk hh=>⟨hh,hk⟩) ops.size (List.range ops.size) (Array.replicate ops.size false) a _ (fun _=>(0,0)) (by simp) ⟨?_,?_,⟨by simp,?_⟩,?_,hb,Nat.le_refl _,fun _ _=>rfl,?_,?_,?_⟩ hn (.refl _ hn)
      · exact wp_region_any hm key
      · exact List.nodup_range
      · intro j
        rw [List.mem_range]
        by_cases hj:j<ops.size<;>simp [hj]
      · intro j o _ hj
        by_cases hj':j<ops.size<;>simp [hj'] at hj
      · exact zeS (seen:=[]) (by simp) (fun i hi=>by simp at hi ⊢;omega) htop
      · intro j hj
        by_cases hj':j<ops.size<;>simp [hj'] at hj
      · intro i _ hj _ _
        by_cases hj':i<ops.size<;>simp [hj'] at hj
      intro j hj
      by_cases hj':j<ops.size<;>simp [hj'] at hj
     | none=>
     simp only [hgd] at h
     cases hpd:find g.pars id with
     | some x=>
      obtain ⟨mm,p⟩:=x
      simp only [hpd] at h
      have ho:=hok.2
      simp only [hgd,hpd,cond_true] at ho
      obtain ⟨Q,st,h1,h2⟩:=h
      have ho':=ho
      simp only [zhM,Bool.and_eq_true,List.all_eq_true] at ho'
      have hpn:p≤ops.size:=Nat.le_of_ble_eq_true ho'.1.1.1.1.1.1
      have htop:=ho'.1.2
      have hsplit:(List.range ops.size).take p++(List.range ops.size).drop p=List.range ops.size:=List.take_append_drop _ _
      have hlen:p+((List.range ops.size).drop p).length=ops.size:=by simp;omega
      have key:=zmz (Q:=Q) (QQ:=fun e a' w'=>K e (zaH a') w'∧Kept n (zga ops.toList) a a') hE hok.1 ho st h1 h2 (fun a' w' hk hh=>⟨hh,hk⟩) p ((List.range ops.size).take p) (Array.replicate ops.size false) a _ (fun _=>(0,0)) (by simp;omega) ⟨?_,?_,?_,?_,⟨by simp,?_⟩,?_,Ext.refl _,fun _ _=>rfl,?_,?_,?_⟩ hn (.refl _ hn)
      · rw [hlen] at key
        exact wp_region_any hm key
      · rw [hsplit];exact List.nodup_range
      · intro j
        rw [hsplit,List.mem_range]
        by_cases hj:j<ops.size<;>simp [hj]
      · intro j hj
        rw [List.mem_take_iff_getElem] at hj
        obtain ⟨i,hi,he⟩:=hj
        simp at he;omega
      · exact List.Pairwise.sublist (List.take_sublist _ _) List.pairwise_lt_range
      · intro j o _ hj
        by_cases hj':j<ops.size<;>simp [hj'] at hj
      · rw [hsplit]
        exact zeS (seen:=[]) (by simp) (fun i hi=>by simp at hi ⊢;omega) htop
      · intro j _ hj
        by_cases hj':j<ops.size<;>simp [hj'] at hj
      · intro i _ _ _ hj _ _
        by_cases hj':i<ops.size<;>simp [hj'] at hj
      intro j _ hj
      by_cases hj':j<ops.size<;>simp [hj'] at hj
     | none=>
     simp only [hpd] at h
     cases hd:find g.draws id with
     | none=>simp [hd] at h
     | some x=>
       obtain ⟨l,fl⟩:=x
       simp only [hd] at h
       have ho:=hok.2
       simp only [hgd,hpd,hd,cond_true,zpu,Bool.and_eq_true,List.all_eq_true,List.mem_range] at ho
       obtain ⟨⟨⟨⟨o1,o2⟩,o3⟩,o4⟩,o5⟩:=ho
       have hnd:=zdn o1
       have hmem:∀ j,j∈l↔j<ops.size:=fun j=>⟨fun hj=>Nat.le_of_ble_eq_true (o2 j hj),fun hj=>List.mem_of_elem_eq_true (o3 j hj)⟩
       have hlen:l.length=ops.size:=by
         have h1:l.Perm (List.range ops.size):=(List.perm_ext_iff_of_nodup hnd List.nodup_range).2 fun j=>by rw [hmem,List.mem_range]
         simpa using h1.length_eq
       obtain ⟨xt,hxl,h⟩:∃ xt:Xt,xt.l=g.ext∧zeM P xt ops.toList fl (K .normal) l (zaH a) (World.drew1 w):=by
         cases hxs:g.xs.elem id
         · rw [hxs] at h;exact ⟨_,rfl,h⟩
         rw [hxs] at h
         obtain ⟨X,h⟩:=h
         exact ⟨_,rfl,h⟩
       refine wp_region_any hm (zfp (ext:=xt) (by rw [hxl];exact hE) (by rw [hxl];exact hok.1) ops.size l _ a _ hlen hnd ?_ ⟨by simp,?_⟩ ?_ o5 hn h fun a' w' hk hh=>⟨hh,hk⟩)
       · intro j
         rw [hmem]
         by_cases hj:j<ops.size<;>simp [hj]
       · intro j o _ hj
         by_cases hj':j<ops.size<;>simp [hj'] at hj
       exact zeS (seen:=[]) (by simp) (fun i hi=>by simpa using (hmem i).1 hi) o4
 | seq x y ihx ihy=>
   intro hok a w K hn h
   simp only [okC,Bool.and_eq_true] at hok
   obtain ⟨⟨hx,hy⟩,hj⟩:=hok
   refine wp_seq ?_
   have fin:∀ (e:Exit) (a1 a2:Act) (w2:World),Kept n (wrs x) a a1→K e (zaH a2) w2∧Kept n (wrs y) a1 a2→K e (zaH a2) w2∧Kept n (wrs (.seq x y)) a a2:=
     fun e a1 a2 w2 k1 ⟨h2,k2⟩=>⟨h2,k1.trans k2 (fun t ht=>List.mem_append_left _ ht) (fun t ht=>List.mem_append_right _ ht)⟩
   have out:∀ (e:Exit) (a1:Act) (w1:World),K e (zaH a1) w1→Kept n (wrs x) a a1→K e (zaH a1) w1∧Kept n (wrs (.seq x y)) a a1:=
     fun e a1 w1 h1 k1=>⟨h1,k1.trans (.refl [] k1.size) (fun t ht=>List.mem_append_left _ ht) (by simp)⟩
   simp only [vc] at h
   cases hjn:(za7 y).bind (find g.joins) with
   | none=>
     simp only [hjn] at h
     refine wp_mono (ihx hx a w _ hn h) fun e a1 w1 ⟨h1,k1⟩=>?_
     cases e with
     | normal=>exact wp_mono (ihy hy a1 w1 K k1.size h1) fun e a2 w2 h2=>fin e a1 a2 w2 k1 h2
     | _=>exact out _ _ _ h1 k1
   | some j=>
     obtain ⟨m,L⟩:=j
     simp only [hjn] at h hj
     obtain ⟨J,hb,hr⟩:=h
     refine wp_mono (ihx hx a w _ hn hb) fun e a1 w1 ⟨h1,k1⟩=>?_
     cases e with
     | normal=>
       have h2:=hr (zaH a1) w1 h1
       rw [zd4 fun t ht=>k1.env t fun hmem=>by rw [List.all_eq_true.1 hj t hmem] at ht;cases ht] at h2
       exact wp_mono (ihy hy a1 w1 K k1.size h2) fun e a2 w2 h2=>fin e a1 a2 w2 k1 h2
     | _=>exact out _ _ _ h1 k1
 | cond c x y ihx ihy=>
   intro hok a w K hn h
   simp only [okC,Bool.and_eq_true] at hok
   simp only [vc,ziC] at h
   obtain ⟨b,hb,h⟩:=h
   have hb':a.eval c=.bool b:=by rw [←zkH];exact hb
   refine wp_cond hb' ?_
   cases b with
   | true=>
     simp only [if_true] at h ⊢
     rw [zkM hb] at h
     exact wp_mono (ihx hok.1 a w K hn h) fun e a' w' ⟨h1,k1⟩=>⟨h1,k1.trans (.refl [] k1.size) (fun t ht=>List.mem_append_left _ ht) (by simp)⟩
   | false=>
     simp only [Bool.false_eq_true,if_false] at h ⊢
     rw [zkM hb] at h
     exact wp_mono (ihy hok.2 a w K hn h) fun e a' w' ⟨h1,k1⟩=>⟨h1,k1.trans (.refl [] k1.size) (fun t ht=>List.mem_append_right _ ht) (by simp)⟩
 | block id c ih=>
   intro hok a w K hn h
   refine wp_block (wp_mono (ih hok a w _ hn h) fun e a' w' ⟨h1,k1⟩=>?_)
   cases e with
   | exit j=>
     simp only [Exit.inBlock,zpr] at h1 ⊢
     by_cases hji:j=id
     · subst hji
       simp only [Nat.beq_refl,cond_true] at h1
       simp only [if_true]
       exact ⟨h1,k1⟩
     have:Nat.beq j id=false:=by rw [Bool.eq_false_iff];exact fun e=>hji (Nat.eq_of_beq_eq_true e)
     rw [this] at h1
     simp only [hji,if_false]
     exact ⟨h1,k1⟩
   | _=>exact ⟨h1,k1⟩
 | loop c ih=>
   intro hok a w K hn h
   simp only [okC,Bool.and_eq_true] at hok
   simp only [vc] at h
   cases hl:(za7 c).bind (find g.loops) with
   | none=>simp [hl] at h
   | some x=>
     obtain ⟨m,L⟩:=x
     simp only [hl] at h
     have hj:=hok.2
     simp only [hl] at hj
     obtain ⟨I,m0,h0,hr⟩:=h
     refine zhP (fun m a' w'=>I m (L.map (zaH a')) w'∧Kept n (wrs c) a a') m0 ⟨h0,.refl _ hn⟩ ?_
     intro m1 a1 w1 ⟨h1,k1⟩
     have h2:=hr m1 (zaH a1) w1 h1
     rw [zd4 fun t ht=>k1.env t fun hmem=>by rw [List.all_eq_true.1 hj t hmem] at ht;cases ht] at h2
     refine wp_mono (ih hok.1 a1 w1 _ k1.size h2) fun e a2 w2 ⟨h3,k2⟩=>?_
     cases e with
     | normal=>
       obtain ⟨m',hm',h4⟩:=h3
       exact ⟨m',hm',h4,k1.trans k2 (fun _ h=>h) (fun _ h=>h)⟩
     | _=>exact ⟨h3,k1.trans k2 (fun _ h=>h) (fun _ h=>h)⟩
 | _=>intro _ a w K hn h;exact (show False from h).elim
end
def zkN (tmps:Array Value):ResultVar→Sem Value
 | .tmp t=>pure (tmps.getD t undef)
 | .cell a t=>do loadVar t (←asAddr (tmps.getD a undef))
theorem zhQ {P:Program} {a:Act} {w:World}:∀ (rs:List ResultVar) (k:List Value→Prop),zq2 P (zaH a) w rs k →
   ∃ vs,(rs.mapM (zkN a.tmps)).run P w=.ok vs w∧k vs
 | [],k,h=>⟨[],by simp,h⟩
 | .tmp t :: r,k,h=>by
   obtain ⟨vs,hr,hk⟩:=zhQ r _ h
   exact ⟨_,by simp only [List.mapM_cons,zkN,Sem.run_bind,Sem.run_pure,Result.andThen_ok,hr];rfl,hk⟩
 | .cell ad t :: r,k,h=>by
   obtain ⟨v,hv,h⟩:=h
   obtain ⟨vs,hr,hk⟩:=zhQ r _ h
   have hv':=hv w (Ext.refl w)
   unfold zbG zaH at hv'
   exact ⟨_,by simp only [List.mapM_cons];rw [Sem.run_bind,show (zkN a.tmps (.cell ad t)).run P w=_ from hv'];simp only [Result.andThen_ok,Sem.run_bind,hr,Sem.run_pure],hk⟩
theorem zgd {P:Program} {fn:Func} {a:Act} {w:World} {R:Value→World→Prop} (h:zq2 P (zaH a) w fn.results.toList fun vs=>R (one vs) w) :
   ∃ v,(results fn a.tmps).run P w=.ok v w∧R v w:=by
 obtain ⟨vs,hr,hk⟩:=zhQ _ _ h
 refine ⟨one vs,?_,hk⟩
 have he:results fn a.tmps=(do let vs ←fn.results.mapM (zkN a.tmps);pure (if h:vs.size=1 then vs[0] else .tuple vs)):=by
   unfold results
   congr 1
 rw [he,Array.mapM_eq_mapM_toList]
 simp only [Sem.run_bind,map_eq_pure_bind,hr,Result.andThen_ok,Sem.run_pure]
 match vs with
 | []=>rfl
 | [v]=>rfl
 | _ :: _ :: _=>rfl
def okF (g:Cfg) (N:Nat) (fn:Func):Bool:=match fn.body with | some c=>okC g N fn.ntmps c | none=>false
theorem zp7 {P:Program} {g:Cfg} {N:Nat} (hE:∀ f,f<N→g.ext.elem f=false→zcC P f=true) (hm:P.follows .mixedOrders=true)
   {f:FuncId} {fn:Func} {args:List Value} {w:World} {R:Value→World→Prop} (hf:P.funcs[f]?=some fn) (hl:args.length≤fn.ntmps) (hok:okF g N fn=true)
   (h:vcF P g fn args w R):CALL P f args w R:=by
 unfold vcF at h
 unfold okF at hok
 cases hb:fn.body with
 | none=>simp [hb] at h
 | some c=>
   simp only [hb] at h hok
   refine ⟨calls_of_wp hf hb ?_⟩
   have henv:zaH { tmps:=args.toArray++Array.replicate (fn.ntmps-args.toArray.size) undef,defers:=[] }=zrR args:=by
     funext t
     unfold zaH zrR
     rw [zeo]
     simp only [Array.getD_eq_getD_getElem?,List.size_toArray]
     rcases Nat.lt_or_ge t args.length with ht | ht
     · rw [Array.getElem?_append_left (by simpa using ht)]
       simp [ht]
     rw [Array.getElem?_append_right (by simpa using ht)]
     simp only [List.getElem?_eq_none ht,Array.getElem?_replicate]
     split<;>rfl
   rw [←henv] at h
   refine wp_mono (zou hE hm c hok _ w _ (by simp;omega) h) fun e a' w' ⟨h1,k1⟩=>?_
   have hd:a'.defers=[]:=k1.defers
   cases e with
   | normal=>
     obtain ⟨v,hv,hR⟩:=zgd h1
     exact ⟨hd,v,hv,v,rfl,hR⟩
   | ret=>
     obtain ⟨v,hv,hR⟩:=zgd h1
     exact ⟨hd,v,hv,v,rfl,hR⟩
   | _=>exact (show False from h1).elim
end Go.Sh
namespace Go.Proofs.YtcnglfeoglgebaaGreat
open Go Go.Sh Go.Proofs
def extL:List Nat:=[0,1,344,345,346,347,348,349,350,351,352,353,354,355,356,357,358,359]
set_option maxRecDepth 100000 in
theorem zre:((List.range 360).all fun f=>extL.elem f || zcC Tryz.prog f)=true:=by kernel_rfl
theorem ent:∀ f,f<360→extL.elem f=false→zcC Tryz.prog f=true:=fun f hf hx=>by
 have:=List.all_eq_true.1 zre f (List.mem_range.2 hf)
 rw [hx,Bool.false_or] at this
 exact this
theorem mixed:Tryz.prog.follows .mixedOrders=true:=by kernel_rfl
end Go.Proofs.YtcnglfeoglgebaaGreat
namespace Go.Sh
open Go.RowKit (Below)
def I64 (x:Int):Prop:=-9223372036854775808≤x∧x≤9223372036854775807
theorem zak:maxLen=9223372036854775807:=rfl
class Rep (α:Type) where
 size:Nat
 agg:Bool
 rep:List Nat→World→List Value→α→Prop
 pos:0<size
 sz:agg=false→size=1
 len:∀ {F w cs x},rep F w cs x→cs.length=size
 one:∀ {F w cs x},rep F w cs x→∀ v∈cs,v.oneCell'=true
 keep:∀ {F w w' cs x},rep F w cs x→(∀ b∈F,w'.heap[b]?=w.heap[b]?)→rep F w' cs x
 lt:∀ {F w cs x},rep F w cs x→∀ b∈F,b<w.heap.size
open Rep (rep)
def mkv (α:Type) [Rep α] (cs:List Value):Value:=bif Rep.agg α then .agg cs.toArray else cs.headD undef
section
variable {α β:Type} [Rep α] [Rep β]
def Is (w:World) (v:Value) (x:α):Prop:=∃ F cs,rep F w cs x∧v=mkv α cs
def At (w:World) (b o:Nat) (x:α):Prop:=∃ F cs,rep F w cs x∧w.rangeAt b o cs
def OwnF (F:List Nat) (w:World) (v:Value) (x:α):Prop:=∃ cs,rep F w cs x∧v=mkv α cs
def Wr (F:List Nat) (w:World):Prop:=∀ b∈F,∃ c e,w.heap[b]?=some (.cells c e (0,0))
structure Mine (F:List Nat) (w:World) (v:Value) (x:α):Prop where
 own:OwnF F w v x
 nodup:F.Nodup
 wr:Wr F w
def Own (lo:Nat) (w:World) (v:Value) (x:α):Prop:=∃ F,Mine F w v x∧∀ b∈F,lo≤b
theorem Ext.heap {w w':World} (h:Ext w w') {b:Nat} (hb:b<w.heap.size):w'.heap[b]?=w.heap[b]?:=h.block b hb
theorem zaP {F:List Nat} {w w':World} {cs:List Value} {x:α} (h:rep F w cs x) (hx:Ext w w'):rep F w' cs x:=
 Rep.keep h fun b hb=>hx.heap (Rep.lt h b hb)
theorem zd5 {w:World} {b o:Nat} {cs:List Value} (h:w.rangeAt b o cs) (hc:0<cs.length):b<w.heap.size:=by
 have:=h 0 cs[0] (by simp [hc])
 exact World.block_lt_of_cell? w _ this
theorem zaS {w w':World} {b o:Nat} {cs:List Value} (h:w.rangeAt b o cs) (hb:w'.heap[b]?=w.heap[b]?):w'.rangeAt b o cs:=
 fun j v hv=>by rw [World.cell?_of_block (w:=w) hb];exact h j v hv
theorem za8 {w w':World} {b o:Nat} {cs:List Value} (h:w.rangeAt b o cs) (hx:Ext w w'):w'.rangeAt b o cs:=by
 intro j v hv
 have hb:=World.block_lt_of_cell? w _ (h j v hv)
 rw [World.cell?_of_block (w:=w) (hx.heap hb)];exact h j v hv
theorem Is.ext {w w':World} {v:Value} {x:α} (h:Is w v x) (hx:Ext w w'):Is w' v x:=by
 obtain ⟨F,cs,hr,hv⟩:=h;exact ⟨F,cs,zaP hr hx,hv⟩
theorem At.ext {w w':World} {b o:Nat} {x:α} (h:At w b o x) (hx:Ext w w'):At w' b o x:=by
 obtain ⟨F,cs,hr,hv⟩:=h;exact ⟨F,cs,zaP hr hx,za8 hv hx⟩
theorem OwnF.ext {F:List Nat} {w w':World} {v:Value} {x:α} (h:OwnF F w v x) (hx:Ext w w'):OwnF F w' v x:=by
 obtain ⟨cs,hr,hv⟩:=h;exact ⟨cs,zaP hr hx,hv⟩
theorem OwnF.keep {F:List Nat} {w w':World} {v:Value} {x:α} (h:OwnF F w v x) (hx:∀ b∈F,w'.heap[b]?=w.heap[b]?):OwnF F w' v x:=by
 obtain ⟨cs,hr,hv⟩:=h;exact ⟨cs,Rep.keep hr hx,hv⟩
theorem OwnF.is {F:List Nat} {w:World} {v:Value} {x:α} (h:OwnF F w v x):Is w v x:=by
 obtain ⟨cs,hr,hv⟩:=h;exact ⟨F,cs,hr,hv⟩
theorem OwnF.lt {F:List Nat} {w:World} {v:Value} {x:α} (h:OwnF F w v x):∀ b∈F,b<w.heap.size:=by
 obtain ⟨cs,hr,hv⟩:=h;exact Rep.lt hr
theorem Wr.keep {F:List Nat} {w w':World} (h:Wr F w) (hk:∀ b∈F,w'.heap[b]?=w.heap[b]?):Wr F w':=fun b hb=>by
 obtain ⟨c,e,he⟩:=h b hb;exact ⟨c,e,by rw [hk b hb];exact he⟩
theorem Wr.lt {F:List Nat} {w:World} (h:Wr F w):∀ b∈F,b<w.heap.size:=fun b hb=>by
 obtain ⟨c,e,he⟩:=h b hb;exact (Array.getElem?_eq_some_iff.1 he).1
theorem Wr.ext {F:List Nat} {w w':World} (h:Wr F w) (hx:Ext w w'):Wr F w':=h.keep fun b hb=>hx.heap (h.lt b hb)
theorem Wr.nil (w:World):Wr [] w:=fun b hb=>by cases hb
theorem Wr.append {F G:List Nat} {w:World} (h:Wr F w) (k:Wr G w):Wr (F++G) w:=fun b hb=>by
 rcases List.mem_append.1 hb with hb | hb
 · exact h b hb
 exact k b hb
theorem Wr.sub {F G:List Nat} {w:World} (h:Wr F w) (hs:∀ b∈G,b∈F):Wr G w:=fun b hb=>h b (hs b hb)
theorem Mine.keep {F:List Nat} {w w':World} {v:Value} {x:α} (h:Mine F w v x) (hk:∀ b∈F,w'.heap[b]?=w.heap[b]?):Mine F w' v x:=⟨h.own.keep hk,h.nodup,h.wr.keep hk⟩
theorem Mine.ext {F:List Nat} {w w':World} {v:Value} {x:α} (h:Mine F w v x) (hx:Ext w w'):Mine F w' v x:=⟨h.own.ext hx,h.nodup,h.wr.ext hx⟩
theorem Mine.is {F:List Nat} {w:World} {v:Value} {x:α} (h:Mine F w v x):Is w v x:=h.own.is
theorem Mine.lt {F:List Nat} {w:World} {v:Value} {x:α} (h:Mine F w v x):∀ b∈F,b<w.heap.size:=h.own.lt
theorem Own.ext {lo:Nat} {w w':World} {v:Value} {x:α} (h:Own lo w v x) (hx:Ext w w'):Own lo w' v x:=by
 obtain ⟨F,hm,hl⟩:=h;exact ⟨F,hm.ext hx,hl⟩
theorem Own.is {lo:Nat} {w:World} {v:Value} {x:α} (h:Own lo w v x):Is w v x:=by
 obtain ⟨F,hm,hl⟩:=h;exact hm.is
theorem Own.mono {lo lo':Nat} {w:World} {v:Value} {x:α} (h:Own lo w v x) (hl:lo'≤lo):Own lo' w v x:=by
 obtain ⟨F,hm,hb⟩:=h;exact ⟨F,hm,fun b hb'=>Nat.le_trans hl (hb b hb')⟩
end
instance:Rep Int where
 size:=1
 agg:=false
 rep F _ cs x:=F=[]∧cs=[.int .i64 x]∧I64 x
 pos:=by decide
 sz _:=rfl
 len:=by rintro _ _ _ _ ⟨_,rfl,_⟩;rfl
 one:=by rintro _ _ _ _ ⟨_,rfl,_⟩ v hv;simp at hv;subst hv;rfl
 keep:=by rintro _ _ _ _ _ h _;exact h
 lt:=by rintro _ _ _ _ ⟨rfl,_⟩ b hb;cases hb
instance:Rep Bool where
 size:=1
 agg:=false
 rep F _ cs x:=F=[]∧cs=[.bool x]
 pos:=by decide
 sz _:=rfl
 len:=by rintro _ _ _ _ ⟨_,rfl⟩;rfl
 one:=by rintro _ _ _ _ ⟨_,rfl⟩ v hv;simp at hv;subst hv;rfl
 keep:=by rintro _ _ _ _ _ h _;exact h
 lt:=by rintro _ _ _ _ ⟨rfl,_⟩ b hb;cases hb
instance:Rep ByteArray where
 size:=1
 agg:=false
 rep F _ cs x:=F=[]∧cs=[.string x]∧x.size≤maxLen
 pos:=by decide
 sz _:=rfl
 len:=by rintro _ _ _ _ ⟨_,rfl,_⟩;rfl
 one:=by rintro _ _ _ _ ⟨_,rfl,_⟩ v hv;simp at hv;subst hv;rfl
 keep:=by rintro _ _ _ _ _ h _;exact h
 lt:=by rintro _ _ _ _ ⟨rfl,_⟩ b hb;cases hb
instance {α β:Type} [Rep α] [Rep β]:Rep (α×β) where
 size:=Rep.size α+Rep.size β
 agg:=true
 rep F w cs x:=∃ F1 F2 c1 c2,F=F1++F2∧cs=c1++c2∧rep F1 w c1 x.1∧rep F2 w c2 x.2
 pos:=by have:=Rep.pos (α:=α);omega
 sz h:=by cases h
 len:=by rintro _ _ _ _ ⟨F1,F2,c1,c2,rfl,rfl,h1,h2⟩;rw [List.length_append,Rep.len h1,Rep.len h2]
 one:=by
   rintro _ _ _ _ ⟨F1,F2,c1,c2,rfl,rfl,h1,h2⟩ v hv
   rcases List.mem_append.1 hv with hv | hv
   · exact Rep.one h1 v hv
   exact Rep.one h2 v hv
 keep:=by
   rintro _ _ _ _ _ ⟨F1,F2,c1,c2,rfl,rfl,h1,h2⟩ hk
   exact ⟨F1,F2,c1,c2,rfl,rfl,Rep.keep h1 fun b hb=>hk b (by simp [hb]),Rep.keep h2 fun b hb=>hk b (by simp [hb])⟩
 lt:=by
   rintro _ _ _ _ ⟨F1,F2,c1,c2,rfl,rfl,h1,h2⟩ b hb
   rcases List.mem_append.1 hb with hb | hb
   · exact Rep.lt h1 b hb
   exact Rep.lt h2 b hb
@[reducible] def Rep.via {α β:Type} [Rep β] (f:α→β):Rep α where
 size:=Rep.size β
 agg:=true
 rep F w cs x:=rep F w cs (f x)
 pos:=Rep.pos
 sz h:=by cases h
 len h:=Rep.len h
 one h:=Rep.one h
 keep h:=Rep.keep h
 lt h:=Rep.lt h
def Cells {α:Type} [Rep α]:List Nat→World→List Value→List α→Prop
 | F,_,xs,[]=>F=[]∧xs=[]
 | F,w,xs,y :: ys=>∃ F1 F2 c1 c2,F=F1++F2∧xs=c1++c2∧rep F1 w c1 y∧Cells F2 w c2 ys
section
variable {α:Type} [Rep α]
theorem Cells.len {w:World}:∀ {l:List α} {F:List Nat} {xs:List Value},Cells F w xs l→xs.length=l.length*Rep.size α
 | [],_,_,⟨_,h⟩=>by simp [h]
 | y :: ys,_,_,⟨F1,F2,c1,c2,_,h,h1,h2⟩=>by rw [h,List.length_append,Rep.len h1,Cells.len h2,List.length_cons,Nat.add_mul];omega
theorem Cells.one {w:World}:∀ {l:List α} {F:List Nat} {xs:List Value},Cells F w xs l→∀ v∈xs,v.oneCell'=true
 | [],_,_,⟨_,h⟩,v,hv=>by rw [h] at hv;cases hv
 | y :: ys,_,_,⟨F1,F2,c1,c2,_,h,h1,h2⟩,v,hv=>by
   rw [h] at hv
   rcases List.mem_append.1 hv with hv | hv
   · exact Rep.one h1 v hv
   exact Cells.one h2 v hv
theorem Cells.keep {w w':World}:∀ {l:List α} {F:List Nat} {xs:List Value},Cells F w xs l→(∀ b∈F,w'.heap[b]?=w.heap[b]?)→Cells F w' xs l
 | [],_,_,h,_=>h
 | y :: ys,_,_,⟨F1,F2,c1,c2,hF,h,h1,h2⟩,hk=>
   ⟨F1,F2,c1,c2,hF,h,Rep.keep h1 fun b hb=>hk b (by rw [hF];simp [hb]),Cells.keep h2 fun b hb=>hk b (by rw [hF];simp [hb])⟩
theorem Cells.lt {w:World}:∀ {l:List α} {F:List Nat} {xs:List Value},Cells F w xs l→∀ b∈F,b<w.heap.size
 | [],_,_,⟨h,_⟩,b,hb=>by rw [h] at hb;cases hb
 | y :: ys,_,_,⟨F1,F2,c1,c2,hF,h,h1,h2⟩,b,hb=>by
   rw [hF] at hb
   rcases List.mem_append.1 hb with hb | hb
   · exact Rep.lt h1 b hb
   exact Cells.lt h2 b hb
theorem Cells.append {w:World}:∀ {l m:List α} {F G:List Nat} {xs ys:List Value},Cells F w xs l→Cells G w ys m→Cells (F++G) w (xs++ys) (l++m)
 | [],_,_,_,_,_,⟨hF,hx⟩,k=>by subst hF hx;exact k
 | y :: l,_,_,_,_,_,⟨F1,F2,c1,c2,hF,hx,h1,h2⟩,k=>by
   subst hF hx
   exact ⟨F1,F2++_,c1,c2++_,by simp,by simp,h1,Cells.append h2 k⟩
theorem Cells.split {w:World}:∀ {l m:List α} {F:List Nat} {xs:List Value},Cells F w xs (l++m)→∃ F1 F2 x1 x2,F=F1++F2∧xs=x1++x2∧Cells F1 w x1 l∧Cells F2 w x2 m
 | [],_,F,xs,h=>⟨[],F,[],xs,rfl,rfl,⟨rfl,rfl⟩,h⟩
 | y :: l,m,_,_,⟨F1,F2,c1,c2,hF,hx,h1,h2⟩=>by
   obtain ⟨G1,G2,x1,x2,rfl,rfl,k1,k2⟩:=Cells.split h2
   exact ⟨F1++G1,G2,c1++x1,x2,by simp [hF],by simp [hx],⟨F1,G1,c1,x1,rfl,rfl,h1,k1⟩,k2⟩
theorem Cells.single {w:World} {F:List Nat} {cs:List Value} {x:α} (h:rep F w cs x):Cells F w cs [x]:=⟨F,[],cs,[],by simp,by simp,h,rfl,rfl⟩
end
instance {α:Type} [Rep α]:Rep (List α) where
 size:=1
 agg:=false
 rep F w cs l:=∃ a cap Fi xs,cs=[.slice a l.length cap]∧l.length≤cap∧cap≤maxLen∧Cells Fi w xs l ∧
   ((l=[]∧F=[])∨∃ b o,a=some ⟨b,o,none⟩∧F=b :: Fi∧w.rangeAt b o xs∧b<w.heap.size)
 pos:=by decide
 sz _:=rfl
 len:=by rintro _ _ _ _ ⟨_,_,_,_,rfl,_⟩;rfl
 one:=by rintro _ _ _ _ ⟨_,_,_,_,rfl,_⟩ v hv;simp at hv;subst hv;rfl
 keep:=by
   rintro _ _ _ _ _ ⟨a,cap,Fi,xs,hcs,h1,h2,hc,h⟩ hk
   rcases h with ⟨rfl,rfl⟩ | ⟨b,o,ha,hF,hr,hb⟩
   · exact ⟨a,cap,Fi,xs,hcs,h1,h2,hc,.inl ⟨rfl,rfl⟩⟩
   subst hF
   have hbb:=hk b (by simp)
   refine ⟨a,cap,Fi,xs,hcs,h1,h2,Cells.keep hc fun c hc=>hk c (by simp [hc]),.inr ⟨b,o,ha,rfl,zaS hr hbb,?_⟩⟩
   rcases Nat.lt_or_ge b (Array.size (World.heap _)) with h' | h'
   · exact h'
   rw [Array.getElem?_eq_none h'] at hbb
   simp [Array.getElem?_eq_getElem hb] at hbb
 lt:=by
   rintro _ _ _ _ ⟨a,cap,Fi,xs,hcs,h1,h2,hc,h⟩ c hm
   rcases h with ⟨rfl,rfl⟩ | ⟨b,o,ha,hF,hr,hb⟩
   · cases hm
   subst hF
   rcases List.mem_cons.1 hm with rfl | hm
   · exact hb
   exact Cells.lt hc c hm
end Go.Sh
namespace Go.Sh
open Go.RowKit (Below)
open Rep (rep)
theorem br {p:Prop} [Decidable p] {kt kf:Prop} (h1:p→kt) (h2:¬p→kf):BR (.bool (decide p)) kt kf:=by
 by_cases h:p
 · simp only [h,decide_true];exact h1 h
 simp only [h,decide_false];exact h2 h
theorem zbQ {b:Bool} {kt kf:Prop} (h1:b=true→kt) (h2:b=false→kf):BR (.bool b) kt kf:=by
 cases b
 · exact h2 rfl
 exact h1 rfl
theorem zrU {b:Bool} {kt kf ks:Prop} (h1:b=true→kt) (h2:b=false→kf):GBR (.bool b) kt kf ks:=by
 cases b
 · exact h2 rfl
 exact h1 rfl
theorem zaE {L:List Nat} {init:List Value} {w:World} {body:Env→World→(List Value→World→Prop)→Prop} (n:Nat) (I:Nat→List Value→World→Prop) (k0:Nat) (hk:k0≤n) (h0:I k0 init w)
   (hr:∀ k m u w',k+m=n→I k (L.map u) w'→body u w' (fun us w''=>∃ m',m'<m∧∃ k',k'+m'=n∧I k' us w'')):LOOPI L init w body:=
 .mk (fun m us w=>∃ k,k+m=n∧I k us w) (n-k0) ⟨k0,by omega,h0⟩ (fun m u w' ⟨k,hk,h⟩=>hr k m u w' hk h)
section
variable {P:Program} {w w0:World} {K:Value→Prop}
theorem zaF {m:Sem Value} {v:Value} (h:∀ w',Ext w w'→m.run P w'=.ok v w') (k:K v):RD P m w K:=⟨v,h,k⟩
section zaZ
variable {t:TypeId} {x y:Operand} {a b:Int} {kd:IntKind}
theorem zal (k:K (.bool (decide (a<b)))):RD P (bin .lss t x y (.int kd a) (.int kd b)) w K:=zaF (fun w' _=>by simp [bin,eqGuard,binOp,Op.intCmp]) k
theorem zeU (k:K (.bool (decide (a≤b)))):RD P (bin .leq t x y (.int kd a) (.int kd b)) w K:=zaF (fun w' _=>by simp [bin,eqGuard,binOp,Op.intCmp]) k
theorem zdP (k:K (.bool (decide (b<a)))):RD P (bin .gtr t x y (.int kd a) (.int kd b)) w K:=zaF (fun w' _=>by simp [bin,eqGuard,binOp,Op.intCmp]) k
theorem zdD (k:K (.bool (decide (b≤a)))):RD P (bin .geq t x y (.int kd a) (.int kd b)) w K:=zaF (fun w' _=>by simp [bin,eqGuard,binOp,Op.intCmp]) k
theorem zai (k:K (.bool (decide (a=b)))):RD P (bin .eql t x y (.int kd a) (.int kd b)) w K:=
 zaF (fun w' _=>by simp [bin,eqGuard,binOp,Op.intCmp];rfl) k
theorem zaT (k:K (.bool (decide (a≠b)))):RD P (bin .neq t x y (.int kd a) (.int kd b)) w K:=
 zaF (fun w' _=>by simp [bin,eqGuard,binOp,Op.intCmp];rfl) k
theorem zeq (h:I64 (a+b)) (k:K (.int .i64 (a+b))):RD P (bin .add t x y (.int .i64 a) (.int .i64 b)) w K:=
 zaF (fun w' _=>by simp [bin,eqGuard,binOp,Op.intArith,IntWalk.i64_in _ h]) k
theorem zck (h:I64 (a-b)) (k:K (.int .i64 (a-b))):RD P (bin .sub t x y (.int .i64 a) (.int .i64 b)) w K:=
 zaF (fun w' _=>by simp [bin,eqGuard,binOp,Op.intArith,IntWalk.i64_in _ h]) k
theorem zkO (h:I64 (a*b)) (k:K (.int .i64 (a*b))):RD P (bin .mul t x y (.int .i64 a) (.int .i64 b)) w K:=
 zaF (fun w' _=>by simp [bin,eqGuard,binOp,Op.intArith,IntWalk.i64_in _ h]) k
theorem zag {n:Nat} (h:n<9223372036854775807) (k:K (.int .i64 ((n+1:Nat):Int))):RD P (bin .add t x y (.int .i64 (n:Int)) (.int .i64 1)) w K:=
 zeq (by unfold I64;omega) (by simpa using k)
theorem zmA (hb:b≠0) (k:K (.int kd (a.tmod b))):RD P (bin .rem t x y (.int kd a) (.int kd b)) w K:=
 zaF (fun w' _=>by simp [bin,eqGuard,binOp,Op.intDiv,hb]) k
theorem zhR {m n:Nat} (hm:m<4611686018427387904) (hn:n<4611686018427387904) (k:K (.int .i64 ((m ||| n:Nat):Int))):RD P (bin .or t x y (.int .i64 (m:Int)) (.int .i64 (n:Int))) w K:=by
 have hlt:m ||| n<2^62:=Nat.or_lt_two_pow hm hn
 refine zaF (fun w' _=>?_) k
 have e1:IntKind.i64.wrap ((m ||| n:Nat):Int)=((m ||| n:Nat):Int):=IntWalk.i64_in _ (by omega)
 have e2:((BitVec.ofInt 64 (m:Int)) ||| (BitVec.ofInt 64 (n:Int))).toNat=m ||| n:=by
   simp only [BitVec.toNat_or,BitVec.ofInt_natCast,BitVec.toNat_ofNat]
   rw [Nat.mod_eq_of_lt (by omega),Nat.mod_eq_of_lt (by omega)]
 show (do eqGuard .or t x y (.int .i64 (m:Int)) (.int .i64 (n:Int));binOp .or t (.int .i64 (m:Int)) (.int .i64 (n:Int)):Sem Value).run P w'=_
 simp only [eqGuard,binOp,Op.intBits]
 show Result.ok (Value.int .i64 (IntKind.i64.wrap (((BitVec.ofInt 64 (m:Int)) ||| (BitVec.ofInt 64 (n:Int))).toNat:Nat))) w'=_
 rw [e2,e1]
theorem zdp {n:Nat} {ku:IntKind} (hn:n<62) (k:K (.int .i64 ((2^n:Nat):Int))):RD P (bin .shl t x y (.int .i64 1) (.int ku (n:Int))) w K:=by
 refine zaF (fun w' _=>?_) k
 have hp:(2^n:Nat)<4611686018427387904:=Nat.pow_lt_pow_right (by omega) hn
 have e1:IntKind.i64.wrap ((2^n:Nat):Int)=((2^n:Nat):Int):=by generalize 2^n=q at hp;exact IntWalk.i64_in _ (by omega)
 have e0:¬((n:Int)<0):=by omega
 have e2:min n 64=n:=by omega
 show (do eqGuard .shl t x y (.int .i64 1) (.int ku (n:Int));binOp .shl t (.int .i64 1) (.int ku (n:Int)):Sem Value).run P w'=_
 simp only [eqGuard,binOp,Op.shift,e0,if_false,Int.toNat_natCast]
 show Result.ok (Value.int .i64 (IntKind.i64.wrap ((1:Int)*2^(min n 64)))) w'=_
 rw [e2,←e1]
 simp
theorem zcD {src dst:TypeId} {n:Nat} (hs:(P.underlying src).isSome=true) (hd:P.underlying dst=some (.int .u64)) (hn:n<9223372036854775808) (k:K (.int .u64 (n:Int))):RD P (convert src dst (.int .i64 (n:Int))) w K:=by
 refine zaF (fun w' _=>?_) k
 obtain ⟨d,hd'⟩:=Option.isSome_iff_exists.mp hs
 have:IntKind.u64.wrap (n:Int)=n:=by simp [IntKind.wrap,IntKind.signed,IntKind.bits];omega
 simp [convert,run_underlying hd',run_underlying hd,Conv.intToInt,this]
end zaZ
theorem zaO {b:Bool} (k:K (.bool (!b))):RD P (Op.unary .not (.bool b)) w K:=zaF (fun _ _=>rfl) k
theorem zbw {p:Prop} [Decidable p] (k:K (.bool (decide (¬p)))):RD P (Op.unary .not (.bool (decide p))) w K:=
 zaF (fun w' _=>by simp [Op.unary]) k
theorem zfM {t e:TypeId} {x y:Operand} {a:Option Addr} {n c:Nat} (ht:P.underlying t=some (.slice e)) (k:K (.bool a.isNone)):RD P (bin .eql t x y (.slice a n c) (.slice none 0 0)) w K:=
 zaF (fun w' _=>by simp only [bin,eqGuard,binOp];simp [run_equal_slice_nil w' t e a n c ht]) k
theorem zbl {vs:Array Value} {i:Nat} {v:Value} (h:vs[i]?=some v) (k:K v):RD P (Instr.extract (.tuple vs) i) w K:=
 zaF (fun w' _=>by simp [Instr.extract,h]) k
theorem zrf {v:Value} {x:Int}:Is w v x↔v=.int .i64 x∧I64 x:=by
 constructor
 · rintro ⟨F,cs,⟨_,rfl,h⟩,rfl⟩;exact ⟨rfl,h⟩
 rintro ⟨rfl,h⟩;exact ⟨[],_,⟨rfl,rfl,h⟩,rfl⟩
theorem zp8 {v:Value} {x:Bool}:Is w v x↔v=.bool x:=by
 constructor
 · rintro ⟨F,cs,⟨_,rfl⟩,rfl⟩;rfl
 rintro rfl;exact ⟨[],_,⟨rfl,rfl⟩,rfl⟩
theorem zrg {v:Value} {x:ByteArray}:Is w v x↔v=.string x∧x.size≤maxLen:=by
 constructor
 · rintro ⟨F,cs,⟨_,rfl,h⟩,rfl⟩;exact ⟨rfl,h⟩
 rintro ⟨rfl,h⟩;exact ⟨[],_,⟨rfl,rfl,h⟩,rfl⟩
section strings
def bts (s:ByteArray):List UInt8:=s.data.toList
theorem za1 (s:ByteArray):(bts s).length=s.size:=by simp [bts]
theorem zp9 {a b:ByteArray} (h:bts a=bts b):a=b:=by
 obtain ⟨⟨x⟩⟩:=a
 obtain ⟨⟨y⟩⟩:=b
 simp only [bts] at h
 rw [h]
instance decMemBA:∀ (s:ByteArray) (l:List ByteArray),Decidable (s∈l)
 | s,[]=>isFalse (by simp)
 | s,x :: l=>if h:s=x then isTrue (by simp [h]) else match decMemBA s l with
   | isTrue h'=>isTrue (by simp [h'])
   | isFalse h'=>isFalse (by simp [h,h'])
theorem zjQ {t ty:TypeId} {s:ByteArray} (ht:P.underlying t=some .string) (k:K (.int .i64 (s.size:Int))):RD P (Builtin.len_ #[t] ty [Value.string s].toArray) w K:=
 zaF (fun w' _=>by simp [Builtin.len_,run_underlying ht];rfl) k
theorem zge {t:TypeId} {s:ByteArray} {i:Nat} (ht:P.underlying t=some .string) (hi:i<s.size) (k:K (.int .u8 (((bts s)[i]'(by rw [za1];exact hi)).toNat:Int))):RD P (Instr.index t (.string s) (.int .i64 (i:Int))) w K:=by
 refine zaF (fun w' _=>?_) k
 have h1:s[i]?=some ((bts s)[i]'(by rw [za1];exact hi)):=by
   rw [getElem?_pos s i hi];rfl
 simp [Instr.index,asIntOf,run_underlying ht,h1]
theorem zmB (a b:ByteArray):(a.toList == b.toList)=decide (a=b):=by
 rw [ByteArray.toList_eq,ByteArray.toList_eq]
 by_cases h:a=b
 · subst h;simp
 have:¬a.data.toList=b.data.toList:=fun e=>h (zp9 e)
 simp only [h,decide_false]
 simpa using this
theorem zbi {t:TypeId} {x y:Operand} {a b:ByteArray} (k:K (.bool (decide (a=b)))):RD P (bin .eql t x y (.string a) (.string b)) w K:=
 zaF (fun w' _=>by simp only [bin,eqGuard,binOp,Op.stringOp,zmB];rfl) k
theorem zqa {t:TypeId} {x y:Operand} {a b:ByteArray} (k:K (.bool (decide (a≠b)))):RD P (bin .neq t x y (.string a) (.string b)) w K:=
 zaF (fun w' _=>by simp only [bin,eqGuard,binOp,Op.stringOp,zmB];simp) k
end strings
section data
variable {α β:Type} [Rep α] [Rep β]
theorem zcf {v:Value} {l:List α} (h:Is w v l):∃ a cap Fi xs,v=.slice a l.length cap∧l.length≤cap∧cap≤maxLen∧Cells Fi w xs l ∧
   (l=[]∨∃ b o,a=some ⟨b,o,none⟩∧w.rangeAt b o xs∧b<w.heap.size):=by
 obtain ⟨F,cs,⟨a,cap,Fi,xs,rfl,h1,h2,h3,h4⟩,rfl⟩:=h
 refine ⟨a,cap,Fi,xs,rfl,h1,h2,h3,?_⟩
 rcases h4 with ⟨h,_⟩ | ⟨b,o,ha,_,hr,hb⟩
 · exact .inl h
 exact .inr ⟨b,o,ha,hr,hb⟩
theorem zan {v:Value} {l:List α} (h:Is w v l):l.length≤9223372036854775807:=by
 obtain ⟨a,cap,Fi,xs,_,h1,h2,_⟩:=zcf h
 rw [zak] at h2;omega
theorem zpv {v:Value} (h:v=.slice none 0 0):Is w v ([]:List α):=by
 subst h;exact ⟨[],_,⟨none,0,[],[],rfl,Nat.le_refl _,Nat.zero_le _,⟨rfl,rfl⟩,.inl ⟨rfl,rfl⟩⟩,rfl⟩
theorem zgf {lo:Nat} {v:Value} (h:v=.slice none 0 0):Own lo w v ([]:List α):=by
 subst h;exact ⟨[],⟨⟨_,⟨none,0,[],[],rfl,Nat.le_refl _,Nat.zero_le _,⟨rfl,rfl⟩,.inl ⟨rfl,rfl⟩⟩,rfl⟩,List.nodup_nil,Wr.nil w⟩,by simp⟩
theorem zaf {t ty e:TypeId} {v:Value} {l:List α} (ht:P.underlying t=some (.slice e)) (h:Is w0 v l) (k:K (.int .i64 (l.length:Int))) :
   RD P (Builtin.len_ #[t] ty [v].toArray) w K:=by
 obtain ⟨a,cap,Fi,xs,rfl,_⟩:=zcf h
 exact zaF (fun w' _=>by simp [Builtin.len_,run_underlying ht];rfl) k
theorem zaq {b o:Nat} {x y:List Value} (h:w.rangeAt b o (x++y)):w.rangeAt b o x∧w.rangeAt b (o+x.length) y:=by
 refine ⟨fun j v hv=>h j v ?_,fun j v hv=>?_⟩
 · rw [List.getElem?_append_left (List.getElem?_eq_some_iff.1 hv).1];exact hv
 have:=h (x.length+j) v (by rw [List.getElem?_append_right (by omega)];simpa using hv)
 rwa [←Nat.add_assoc] at this
theorem zcP {b o:Nat} {x y:List Value} (h:w.rangeAt b o x) (k:w.rangeAt b (o+x.length) y):w.rangeAt b o (x++y):=by
 intro j v hv
 rcases Nat.lt_or_ge j x.length with hj | hj
 · rw [List.getElem?_append_left hj] at hv;exact h j v hv
 rw [List.getElem?_append_right hj] at hv
 have:=k (j-x.length) v hv
 rwa [show o+x.length+(j-x.length)=o+j by omega] at this
theorem Cells.at {F:List Nat} {xs:List Value} {l:List α} {b o i:Nat} (h:Cells F w xs l) (hr:w.rangeAt b o xs) (hi:i<l.length):At w b (o+i*Rep.size α) l[i]:=by
 have e:l=l.take i++(l[i] :: l.drop (i+1)):=by simp
 rw [e] at h
 obtain ⟨F1,F2,x1,x2,rfl,rfl,h1,h2⟩:=Cells.split h
 obtain ⟨G1,G2,c1,c2,rfl,rfl,k1,k2⟩:=h2
 have hl:x1.length=i*Rep.size α:=by rw [Cells.len h1,List.length_take];congr 1;omega
 have:=zaq (zaq hr).2
 rw [hl] at this
 exact ⟨G1,c1,k1,this.1⟩
def tyI (P:Program) (t:TypeId):Option (Nat×Nat×Bool):=
 match P.info? t,P.underlying t with
 | some i,some d=>some (i.size,i.bytes,d.isRow)
 | _,_=>none
theorem zbj {t s by_:Nat} {g:Bool} (h:tyI P t=some (s,by_,g)):∃ i d,P.info? t=some i∧P.underlying t=some d∧i.size=s∧i.bytes=by_∧d.isRow=g:=by
 unfold tyI at h
 cases hi:P.info? t with
 | none=>simp [hi] at h
 | some i=>
   cases hd:P.underlying t with
   | none=>simp [hi,hd] at h
   | some d=>simp only [hi,hd,Option.some.injEq,Prod.mk.injEq] at h;exact ⟨i,d,rfl,rfl,h.1,h.2.1,h.2.2⟩
theorem zar {t s by_:Nat} {g:Bool} (h:tyI P t=some (s,by_,g)) (w:World):(sizeOf t).run P w=.ok s w:=by
 obtain ⟨i,d,hi,hd,hs,_⟩:=zbj h
 simp [sizeOf,typeInfo,hi,hs]
theorem zbD {t s by_:Nat} {g:Bool} (h:tyI P t=some (s,by_,g)) (w:World):(isAgg t).run P w=.ok g w:=by
 obtain ⟨i,d,hi,hd,hs,_,hg⟩:=zbj h
 unfold isAgg
 rw [Sem.run_bind,run_underlying hd w]
 cases d<;>subst hg<;>simp
theorem zb7 {t e:TypeId} {b o n cap s by_:Nat} {g:Bool} {i:Int} (ht:P.underlying t=some (.slice e)) (he:tyI P e=some (s,by_,g)) (h0:0≤i) (h1:i<n) (w:World) :
   (Instr.indexAt t (.slice (some ⟨b,o,none⟩) n cap) (.int .i64 i)).run P w=.ok (.pointer (some ⟨b,o+i.toNat*s,none⟩)) w:=by
 simp [Instr.indexAt,run_underlying ht,asIntOf,h0,h1,zar he,Addr.add_mid]
theorem zd6 {t e:TypeId} {by_:Nat} {v:Value} {l:List α} {i:Int} (ht:P.underlying t=some (.slice e)) (he:tyI P e=some (Rep.size α,by_,Rep.agg α)) (h:Is w0 v l) (h0:0≤i) (h1:i.toNat<l.length)
   (k:∀ b o,At w0 b o (l[i.toNat]'h1)→K (.pointer (some ⟨b,o,none⟩))):RD P (Instr.indexAt t v (.int .i64 i)) w K:=by
 obtain ⟨a,cap,Fi,xs,rfl,_,_,hc,hh⟩:=zcf h
 rcases hh with rfl | ⟨b,o,rfl,hr,hb⟩
 · simp at h1
 exact zaF (fun w' _=>zb7 ht he h0 (by omega) w') (k _ _ (Cells.at hc hr h1))
theorem zad {t e:TypeId} {by_:Nat} {v:Value} {l:List α} {i:Nat} (ht:P.underlying t=some (.slice e)) (he:tyI P e=some (Rep.size α,by_,Rep.agg α)) (h:Is w0 v l) (h1:i<l.length)
   (k:∀ b o,At w0 b o l[i]→K (.pointer (some ⟨b,o,none⟩))):RD P (Instr.indexAt t v (.int .i64 (i:Int))) w K:=
 zd6 ht he h (by omega) (by simpa using h1) (fun b o hA=>k b o (by simpa using hA))
theorem zdq {t by_ b o:Nat} {F:List Nat} {cs:List Value} {x:α} (ht:tyI P t=some (Rep.size α,by_,Rep.agg α)) (hr:rep F w cs x) (hc:w.rangeAt b o cs) :
   (Instr.loadAt t (.pointer (some ⟨b,o,none⟩))).run P w=.ok (mkv α cs) w:=by
 obtain ⟨i,d,hi,hd,hs,_,hg⟩:=zbj ht
 have hl:=Rep.len hr
 cases hag:Rep.agg α with
 | true=>
   rw [run_loadAt_mid w b o t cs d hc hd (by rw [hg,hag]) (by simp [hi,hs,hl])]
   simp [mkv,hag]
 | false=>
   have h1:=Rep.sz hag
   rw [h1] at hl
   obtain ⟨c,rfl⟩:=List.length_eq_one_iff.1 hl
   have h0:w.cell? ⟨b,o,none⟩=some c:=by simpa using hc 0 c rfl
   have hA:=zbD ht w
   rw [hag] at hA
   simp [Instr.loadAt,Instr.sureAddr,loadVar,hA,h0,mkv,hag]
theorem zab {t by_ b o:Nat} {x:α} (ht:tyI P t=some (Rep.size α,by_,Rep.agg α)) (h:At w0 b o x) (hx:Ext w0 w) (k:∀ v,Is w0 v x→K v) :
   RD P (Instr.loadAt t (.pointer (some ⟨b,o,none⟩))) w K:=by
 obtain ⟨F,cs,hr,hc⟩:=h
 exact zaF (fun w' hx'=>zdq ht (zaP hr (hx.trans hx')) (za8 hc (hx.trans hx'))) (k _ ⟨F,cs,hr,rfl⟩)
theorem zac {t by_ b o:Nat} {x:Int} (ht:tyI P t=some (1,by_,false)) (h:At w0 b o x) (hx:Ext w0 w) (k:I64 x→K (.int .i64 x)) :
   RD P (Instr.loadAt t (.pointer (some ⟨b,o,none⟩))) w K:=
 zab (α:=Int) ht h hx fun v hv=>by obtain ⟨rfl,h⟩:=zrf.1 hv;exact k h
theorem zaA {t by_ b o:Nat} {x:ByteArray} (ht:tyI P t=some (1,by_,false)) (h:At w0 b o x) (hx:Ext w0 w) (k:x.size≤maxLen→K (.string x)) :
   RD P (Instr.loadAt t (.pointer (some ⟨b,o,none⟩))) w K:=
 zab (α:=ByteArray) ht h hx fun v hv=>by obtain ⟨rfl,h⟩:=zrg.1 hv;exact k h
theorem zb1 {t by_ b o:Nat} {x:Bool} (ht:tyI P t=some (1,by_,false)) (h:At w0 b o x) (hx:Ext w0 w) (k:K (.bool x)) :
   RD P (Instr.loadAt t (.pointer (some ⟨b,o,none⟩))) w K:=
 zab (α:=Bool) ht h hx fun v hv=>by obtain rfl:=zp8.1 hv;exact k
def zcE (P:Program) (t:TypeId) (i:Nat):Option Nat:=
 match P.underlying t with
 | some (.struct fs)=>match fs[i]? with
   | some f=>match P.info? f.type with
     | some j=>bif Nat.beq j.size 0 then none else some f.offset
     | none=>none
   | none=>none
 | _=>none
theorem zaa {t i off b o:Nat} (hf:zcE P t i=some off) (k:K (.pointer (some ⟨b,o+off,none⟩))):RD P (Instr.fieldAt t (.pointer (some ⟨b,o,none⟩)) i) w K:=by
 refine zaF (fun w' _=>?_) k
 unfold zcE at hf
 cases hu:P.underlying t with
 | none=>simp [hu] at hf
 | some d=>
   cases d with
   | struct fs=>
     simp only [hu] at hf
     cases hfi:fs[i]? with
     | none=>simp [hfi] at hf
     | some f=>
       simp only [hfi] at hf
       cases hin:P.info? f.type with
       | none=>simp [hin] at hf
       | some j=>
         simp only [hin] at hf
         cases hb:Nat.beq j.size 0 with
         | true=>simp [hb] at hf
         | false=>
           simp only [hb,cond_false,Option.some.injEq] at hf
           have hne:¬j.size=0:=fun e=>by rw [e] at hb;cases hb
           subst hf
           simp [Instr.fieldAt,run_underlying hu,hfi,Instr.sureAddr,fieldPlace,sizeOf,typeInfo,hin,hne,Addr.add_mid]
   | _=>simp [hu] at hf
theorem zbE {b o:Nat} {p:α×β} (h:At w b o p):At w b o p.1:=by
 obtain ⟨F,cs,⟨F1,F2,c1,c2,rfl,rfl,h1,h2⟩,hr⟩:=h
 exact ⟨F1,c1,h1,(zaq hr).1⟩
theorem zaL {b o:Nat} {p:α×β} (h:At w b o p):At w b (o+Rep.size α) p.2:=by
 obtain ⟨F,cs,⟨F1,F2,c1,c2,rfl,rfl,h1,h2⟩,hr⟩:=h
 have:=(zaq hr).2
 rw [Rep.len h1] at this
 exact ⟨F2,c2,h2,this⟩
theorem zmC {a:Option Addr} {cap:Nat} {l:List α} (h:Is w (.slice a l.length cap) l) (k:Nat) (hk:k≤l.length) (s:Nat) (hs:s=Rep.size α) :
   Is w (.slice (if cap=k then a else a.map (·.add (k*s))) (l.length-k) (cap-k)) (l.drop k):=by
 subst hs
 obtain ⟨F,cs,⟨a',cap',Fi,xs,rfl,h1,h2,hc,h4⟩,hv⟩:=h
 simp only [mkv,Rep.agg,cond_false,List.headD_cons,Value.slice.injEq] at hv
 obtain ⟨rfl,_,rfl⟩:=hv
 have e:l=l.take k++l.drop k:=by simp
 have hlen:(l.drop k).length=l.length-k:=by simp
 rw [e] at hc
 obtain ⟨F1,F2,x1,x2,rfl,rfl,c1,c2⟩:=Cells.split hc
 have hx1:x1.length=k*Rep.size α:=by rw [Cells.len c1,List.length_take];congr 1;omega
 by_cases hd:l.drop k=[]
 · refine ⟨[],_,⟨if cap=k then a else a.map (·.add (k*Rep.size α)),cap-k,F2,x2,rfl,by rw [hlen];omega,by omega,c2,.inl ⟨hd,rfl⟩⟩,?_⟩
   rw [←hlen];rfl
 have hlt:k<l.length:=by
   rcases Nat.lt_or_ge k l.length with h' | h'
   · exact h'
   exact absurd (List.drop_eq_nil_iff.2 h') hd
 rcases h4 with ⟨rfl,_⟩ | ⟨b,o,rfl,rfl,hr,hb⟩
 · simp at hlt
 have hr2:=(zaq hr).2
 rw [hx1] at hr2
 refine ⟨_,_,⟨_,cap-k,F2,x2,rfl,by rw [hlen];omega,by omega,c2,.inr ⟨b,o+k*Rep.size α,rfl,rfl,hr2,hb⟩⟩,?_⟩
 rw [if_neg (by omega),←hlen]
 simp only [Option.map_some,Addr.add_mid]
 rfl
theorem zeV {t e:TypeId} {by_:Nat} {v:Value} {l:List α} {i:Int} (ht:P.underlying t=some (.slice e)) (he:tyI P e=some (Rep.size α,by_,Rep.agg α)) (h:Is w0 v l) (h0:0≤i) (h1:i.toNat≤l.length)
   (k:∀ v',Is w0 v' (l.drop i.toNat)→K v'):RD P (Instr.sliceAt t v (some (.int .i64 i)) none none) w K:=by
 obtain ⟨a,cap,Fi,xs,rfl,hc1,_,_⟩:=zcf h
 refine zaF (v:=.slice (if cap=i.toNat then a else a.map (·.add (i.toNat*Rep.size α))) (l.length-i.toNat) (cap-i.toNat)) (fun w' _=>?_) (k _ (zmC h i.toNat h1 _ rfl))
 have hb:(Instr.sliceBounds true l.length cap (some (.int .i64 i)) none none).run P w'=.ok (i.toNat,l.length,cap) w':=by
   have:i≤(l.length:Int):=by omega
   simp [Instr.sliceBounds,Instr.sliceBound,asIntOf,h0,this]
 simp [Instr.sliceAt,Instr.slice,run_underlying ht,hb,zar he]
end data
end
end Go.Sh
namespace Go.Sh
open Go.RowKit (Below)
open Rep (rep)
structure Chg (F:List Nat) (w w':World):Prop where
 os:w'.os=w.os
 tape:w'.tape=w.tape
 output:w'.output=w.output
 size:w.heap.size≤w'.heap.size
 block:∀ b,b<w.heap.size→b∉F→w'.heap[b]?=w.heap[b]?
theorem Chg.refl (F:List Nat) (w:World):Chg F w w:=⟨rfl,rfl,rfl,Nat.le_refl _,fun _ _ _=>rfl⟩
theorem Chg.trans {F:List Nat} {a b c:World} (h:Chg F a b) (k:Chg F b c):Chg F a c:=
 ⟨k.os.trans h.os,k.tape.trans h.tape,k.output.trans h.output,Nat.le_trans h.size k.size,fun i hi hF=>(k.block i (Nat.lt_of_lt_of_le hi h.size) hF).trans (h.block i hi hF)⟩
theorem Chg.mono {F G:List Nat} {a b:World} (h:Chg F a b) (hs:∀ x∈F,x∈G):Chg G a b:=
 ⟨h.os,h.tape,h.output,h.size,fun i hi hF=>h.block i hi fun e=>hF (hs i e)⟩
theorem Ext.chg {a b:World} (F:List Nat) (h:Ext a b):Chg F a b:=⟨h.os,h.tape,h.output,h.size,fun i hi _=>h.block i hi⟩
theorem Chg.ext {a b:World} (h:Chg [] a b):Ext a b:=⟨h.os,h.tape,h.output,h.size,fun i hi=>h.block i hi (by simp)⟩
theorem Ext.chg_trans {F:List Nat} {a b c:World} (h:Ext a b) (k:Chg F b c) (hF:∀ x∈F,a.heap.size≤x):Ext a c:=
 ⟨k.os.trans h.os,k.tape.trans h.tape,k.output.trans h.output,Nat.le_trans h.size k.size,
   fun i hi=>(k.block i (Nat.lt_of_lt_of_le hi h.size) fun e=>by have:=hF i e;omega).trans (h.block i hi)⟩
theorem zao (w:World):Ext w (World.drew1 w):=⟨rfl,rfl,rfl,Nat.le_refl _,fun _ _=>rfl⟩
theorem zaw (w:World) (o:Obj):Ext w (w.alloc o):=⟨rfl,rfl,rfl,by simp,fun k hk=>Below.heap_alloc w o k hk⟩
theorem ziG {w w':World} {row:Option Nat} (h:w.grownBy w' row):Chg row.toList w w':=
 ⟨h.os,h.tape,h.output,h.size,fun b hb hF=>h.block b hb fun e=>hF (by simp [←e])⟩
section
variable {P:Program} {w w0:World} {α β:Type} [Rep α] [Rep β]
theorem Is.chg {F:List Nat} {w':World} {v:Value} {x:α} {G:List Nat} (h:OwnF G w v x) (hc:Chg F w w') (hd:∀ b∈G,b∉F):OwnF G w' v x:=
 h.keep fun b hb=>hc.block b (h.lt b hb) (hd b hb)
def zbd (P:Program) (e:TypeId):Bool:=match P.info? e with | some i=>i.zero.isSome | none=>false
theorem zbT (w:World) (g:Nat) (cs:Array Value):Chg [g] w (w.setRow g cs):=
 ⟨rfl,rfl,rfl,by simp,fun b _ hF=>setRow_other w g b _ (by simpa using hF)⟩
theorem zcF {cs:List Value} {F:List Nat} {x:α} (h:rep F w cs x):(mkv α cs).cells.toList=cs:=by
 unfold mkv
 cases ha:Rep.agg α with
 | true=>simp [Value.cells]
 | false=>
   have hl:=Rep.len h
   rw [Rep.sz ha] at hl
   obtain ⟨c,rfl⟩:=List.length_eq_one_iff.1 hl
   have h1:=Rep.one h c (by simp)
   cases c<;>first | rfl | (simp [Value.oneCell'] at h1)
theorem zcQ {t by_ g o:Nat} {cur:Array Value} {e:TypeId} {F:List Nat} {cs:List Value} {x:α} (ht:tyI P t=some (Rep.size α,by_,Rep.agg α)) (hr:rep F w cs x)
   (hg:w.heap[g]?=some (.cells cur e (0,0))) (hfit:o+Rep.size α≤cur.size) :
   (Instr.storeAt t (.pointer (some ⟨g,o,none⟩)) (mkv α cs)).run P w=.ok () (w.setRow g (cur.toList.take o++cs++cur.toList.drop (o+cs.length)).toArray):=by
 obtain ⟨i,d,hi,hd,hs,_⟩:=zbj ht
 have hc:=zcF hr
 have hl:=Rep.len hr
 have hsz:(mkv α cs).cells.size=Rep.size α:=by rw [←Array.length_toList,hc,hl]
 have:=run_storeCells_at (P:=P) g o e cs 0 cur w hg (by rw [hl];simpa using hfit) (Rep.one hr)
 simp only [Nat.add_zero] at this
 simp [Instr.storeAt,Instr.sureAddr,storeVar,hsz,zar ht,hc,this]
theorem zgg {t e:TypeId} {s by_ n cap g k:Nat} {ag:Bool} {K:Value→Prop} (ht:P.underlying t=some (.slice e)) (he:tyI P e=some (s,by_,ag)) (hk:k<n) (kk:K (.pointer (some ⟨g,k*s,none⟩))) :
   RD P (Instr.indexAt t (.slice (some ⟨g,0,none⟩) n cap) (.int .i64 (k:Int))) w K:=
 zaF (fun w' _=>by rw [zb7 ht he (by omega) (by omega)];simp) kk
theorem zdE {t:TypeId} {v:Value} {x:α} {K:Value→World→Prop} (h:Is w0 v x) (hx:Ext w0 w) (k:∀ w',Ext w w'→At w' w.heap.size 0 x→K (.pointer (some ⟨w.heap.size,0,none⟩)) w') :
   OP P (Instr.box t v) w K:=by
 obtain ⟨F,cs,hr,rfl⟩:=h
 have hc:=zcF hr
 refine ⟨_,w.alloc (.cells (mkv α cs).cells t),by simp [Instr.box,newVar,newRow],k _ (zaw w _) ⟨F,cs,zaP hr (hx.trans (zaw w _)),?_⟩⟩
 intro j u hu
 simp only [World.cell?,heap_alloc_new w _]
 rw [←hc] at hu
 simpa using hu
def Blk (g e:Nat) (w:World) (cs:List Value):Prop:=w.heap[g]?=some (.cells cs.toArray e (0,0))
theorem Blk.lt {g e:Nat} {cs:List Value} (h:Blk g e w cs):g<w.heap.size:=(Array.getElem?_eq_some_iff.1 h).1
theorem Blk.ext {g e:Nat} {w':World} {cs:List Value} (h:Blk g e w cs) (hx:Ext w w'):Blk g e w' cs:=by
 unfold Blk;rw [hx.heap h.lt];exact h
theorem Blk.keep {g e:Nat} {w':World} {cs:List Value} (h:Blk g e w cs) (hk:w'.heap[g]?=w.heap[g]?):Blk g e w' cs:=by
 unfold Blk;rw [hk];exact h
theorem Blk.chg {g e:Nat} {F:List Nat} {w':World} {cs:List Value} (h:Blk g e w cs) (hc:Chg F w w') (hg:g∉F):Blk g e w' cs:=h.keep (hc.block g h.lt hg)
theorem Blk.range {g e:Nat} {cs:List Value} (h:Blk g e w cs):w.rangeAt g 0 cs:=by
 intro j v hv
 have h':w.heap[g]?=some (.cells cs.toArray e (0,0)):=h
 simpa [World.cell?,h'] using hv
theorem Blk.at {g e:Nat} {F:List Nat} {cs:List Value} {x:α} (h:Blk g e w cs) (hr:rep F w cs x):At w g 0 x:=⟨F,cs,hr,h.range⟩
def zbt (P:Program) (e:TypeId):Option (List Value):=match P.info? e with | some i=>i.zero.map (·.cells.toList) | none=>none
theorem zcm {e:TypeId} {zs:List Value} {K:Value→World→Prop} (hz:zbt P e=some zs) (k:∀ w',Ext w w'→Blk w.heap.size e w' zs→K (.pointer (some ⟨w.heap.size,0,none⟩)) w') :
   OP P (Instr.alloc e true (.tuple #[])) w K:=by
 unfold zbt at hz
 cases hi:P.info? e with
 | none=>simp [hi] at hz
 | some i=>
   simp only [hi] at hz
   obtain ⟨z,hz',rfl⟩:=Option.map_eq_some_iff.1 hz
   exact ⟨_,w.alloc (.cells z.cells e),by simp [Instr.alloc,zeroValue,typeInfo,hi,hz',newVar,newRow],k _ (zaw w _) (by unfold Blk;rw [heap_alloc_new w _])⟩
def Var (P:Program) (t:TypeId) (w:World) (g:Nat) (v:Value):Prop:=∃ e cs by_,Blk g e w cs∧v=.agg cs.toArray∧tyI P t=some (cs.length,by_,true)
theorem Var.lt {t g:Nat} {v:Value} (h:Var P t w g v):g<w.heap.size:=by obtain ⟨e,cs,_,hB,_⟩:=h;exact hB.lt
theorem Var.ext {t g:Nat} {v:Value} {w':World} (h:Var P t w g v) (hx:Ext w w'):Var P t w' g v:=by
 obtain ⟨e,cs,b,hB,r⟩:=h;exact ⟨e,cs,b,hB.ext hx,r⟩
theorem Var.keep {t g:Nat} {v:Value} {w':World} (h:Var P t w g v) (hk:w'.heap[g]?=w.heap[g]?):Var P t w' g v:=by
 obtain ⟨e,cs,b,hB,r⟩:=h;exact ⟨e,cs,b,hB.keep hk,r⟩
theorem zdF {t g:Nat} {v:Value} {K:Value→Prop} (h:Var P t w0 g v) (hx:Ext w0 w) (k:K v):RD P (Instr.loadAt t (.pointer (some ⟨g,0,none⟩))) w K:=by
 obtain ⟨e,cs,b,hB,rfl,ht⟩:=h
 obtain ⟨i,d,hi,hd,hs,_,hg⟩:=zbj ht
 exact zaF (fun w' hx'=>run_loadAt_mid w' g 0 t cs d ((hB.ext hx).ext hx').range hd hg (by simp [hi,hs])) k
theorem zbm {t by_:Nat} {v:Value} {x:α} {K:Value→World→Prop} (ht:tyI P t=some (Rep.size α,by_,true)) (ha:Rep.agg α=true) (h:Is w0 v x) (hx:Ext w0 w)
   (k:∀ w',Ext w w'→At w' w.heap.size 0 x→Var P t w' w.heap.size v→K (.pointer (some ⟨w.heap.size,0,none⟩)) w'):OP P (Instr.box t v) w K:=by
 obtain ⟨F,cs,hr,rfl⟩:=h
 have hc:=zcF hr
 have hB:Blk w.heap.size t (w.alloc (.cells (mkv α cs).cells t)) cs:=by
   unfold Blk
   rw [heap_alloc_new w _]
   congr 2
   apply Array.ext'
   simp [hc]
 refine ⟨_,w.alloc (.cells (mkv α cs).cells t),by simp [Instr.box,newVar,newRow],k _ (zaw w _) (hB.at (zaP hr (hx.trans (zaw w _)))) ⟨t,cs,by_,hB,by simp [mkv,ha],by rw [Rep.len hr];exact ht⟩⟩
theorem zbB {e by_:Nat} {zs:List Value} {v:Value} {x:α} {K:Value→World→Prop} (hz:zbt P e=some zs) (hl:zs.length=Rep.size α) (ht:tyI P e=some (Rep.size α,by_,true)) (ha:Rep.agg α=true) (h:Is w0 v x) (hx:Ext w0 w)
   (k:∀ w',Ext w w'→At w' w.heap.size 0 x→Var P e w' w.heap.size v→K (.pointer (some ⟨w.heap.size,0,none⟩)) w') :
   OP P (Instr.alloc e true (.tuple #[])) w fun p w1=>OPU P (Instr.storeAt e p v) w1 (K p):=by
 obtain ⟨F,cs,hr,rfl⟩:=h
 have hlr:=Rep.len hr
 unfold zbt at hz
 cases hi:P.info? e with
 | none=>simp [hi] at hz
 | some i=>
   simp only [hi] at hz
   obtain ⟨z,hz',rfl⟩:=Option.map_eq_some_iff.1 hz
   refine ⟨.pointer (some ⟨w.heap.size,0,none⟩),w.alloc (.cells z.cells e),by simp [Instr.alloc,zeroValue,typeInfo,hi,hz',newVar,newRow],?_⟩
   have hB:(w.alloc (.cells z.cells e)).heap[w.heap.size]?=some (.cells z.cells e (0,0)):=heap_alloc_new w _
   have hsz:z.cells.size=Rep.size α:=by simpa using hl
   have hr1:=zaP hr (hx.trans (zaw w (.cells z.cells e)))
   have hst:=zcQ (P:=P) (t:=e) (by_:=by_) (o:=0) (by rw [ha];exact ht) hr1 hB (by simp [hsz])
   have hsr:=setRow_heap (w.alloc (.cells z.cells e)) w.heap.size z.cells (z.cells.toList.take 0++cs++z.cells.toList.drop (0+cs.length)).toArray e _ hB
   have hcs:z.cells.toList.take 0++cs++z.cells.toList.drop (0+cs.length)=cs:=by
     rw [List.take_zero,List.nil_append,Nat.zero_add,List.drop_of_length_le (by simp [hsz,hlr]),List.append_nil]
   rw [hcs] at hst hsr
   have hex:Ext w ((w.alloc (.cells z.cells e)).setRow w.heap.size cs.toArray):=(zaw w _).chg_trans (zbT _ _ _) (by simp)
   exact ⟨_,hst,k _ hex (Blk.at (e:=e) hsr (zaP hr (hx.trans hex))) ⟨e,cs,by_,hsr,by simp [mkv,ha],by rw [hlr];exact ht⟩⟩
theorem zmD {t by_ g o e:Nat} {cs us:List Value} {F:List Nat} {x:α} {v:Value} {K:World→Prop} (ht:tyI P t=some (Rep.size α,by_,Rep.agg α)) (hB:Blk g e w cs) (hr:rep F w us x) (hv:v=mkv α us) (ho:o+Rep.size α≤cs.length)
   (k:∀ w',Chg [g] w w'→Blk g e w' (cs.take o++us++cs.drop (o+us.length))→K w'):OPU P (Instr.storeAt t (.pointer (some ⟨g,o,none⟩)) v) w K:=by
 subst hv
 have hB':w.heap[g]?=some (.cells cs.toArray e (0,0)):=hB
 have:=zcQ (P:=P) ht hr hB' (by simpa using ho)
 exact ⟨_,this,k _ (zbT w g _) (setRow_heap w g _ _ e _ hB')⟩
class Flat (α:Type) [Rep α]:Prop where
 flat:∀ {F w cs} {x:α},rep F w cs x→F=[]
instance:Flat Int:=⟨fun h=>h.1⟩
instance:Flat Bool:=⟨fun h=>h.1⟩
instance:Flat ByteArray:=⟨fun h=>h.1⟩
instance [Flat α] [Flat β]:Flat (α×β):=⟨by
 rintro _ _ _ _ ⟨F1,F2,c1,c2,rfl,rfl,h1,h2⟩
 rw [Flat.flat h1,Flat.flat h2];rfl⟩
theorem Cells.flat [Flat α] {xs:List Value}:∀ {l:List α} {F:List Nat} {xs:List Value},Cells F w xs l→F=[]
 | [],_,_,⟨h,_⟩=>h
 | _ :: _,_,_,⟨F1,F2,c1,c2,hF,_,h1,h2⟩=>by rw [hF,Flat.flat h1,Cells.flat (xs:=xs) h2];rfl
theorem Cells.set {F:List Nat} {xs:List Value} {l:List α} (h:Cells F w xs l) (k:Nat) (hk:k<l.length) {G:List Nat} {cs:List Value} {x:α} (hr:rep G w cs x) [Flat α] :
   Cells [] w (xs.take (k*Rep.size α)++cs++xs.drop (k*Rep.size α+Rep.size α)) (l.set k x):=by
 have hF:=Cells.flat (xs:=xs) h
 have hG:=Flat.flat hr
 subst hF hG
 have e:l=l.take k++(l[k] :: l.drop (k+1)):=by simp
 rw [e] at h
 obtain ⟨F1,F2,x1,x2,hFF,rfl,h1,h2⟩:=Cells.split h
 obtain ⟨rfl,rfl⟩:=List.append_eq_nil_iff.1 hFF.symm
 obtain ⟨G1,G2,c1,c2,hGG,rfl,k1,k2⟩:=h2
 obtain ⟨rfl,rfl⟩:=List.append_eq_nil_iff.1 hGG.symm
 have hl:x1.length=k*Rep.size α:=by rw [Cells.len h1,List.length_take];congr 1;omega
 have hc:=Rep.len k1
 have e1:(x1++(c1++c2)).take (k*Rep.size α)=x1:=by rw [←hl];exact List.take_left
 have e2:(x1++(c1++c2)).drop (k*Rep.size α+Rep.size α)=c2:=by
   rw [←hl,←hc,←List.append_assoc,←List.length_append];exact List.drop_left
 rw [e1,e2]
 have:l.set k x=l.take k++(x :: l.drop (k+1)):=by rw [List.set_eq_take_append_cons_drop];simp [hk]
 rw [this,List.append_assoc]
 exact Cells.append (F:=[]) (G:=[]) h1 ⟨[],[],cs,c2,rfl,rfl,hr,k2⟩
theorem zov {t e:TypeId} {by_:Nat} [Flat α] {F:List Nat} {v u:Value} {l:List α} {x:α} {k:Nat} {K:World→Prop} (ht:P.underlying t=some (.slice e)) (he:tyI P e=some (Rep.size α,by_,Rep.agg α))
   (hm:Mine F w v l) (hk:k<l.length) (hx:OwnF [] w u x) (kk:∀ w',Chg F w w'→Mine F w' v (l.set k x)→K w') :
   RD P (Instr.indexAt t v (.int .i64 (k:Int))) w fun p=>OPU P (Instr.storeAt e p u) w K:=by
 obtain ⟨⟨cs,⟨a,cap,Fi,xs,rfl,h1,h2,hc,h4⟩,rfl⟩,hn,hw⟩:=hm
 obtain ⟨us,hr,rfl⟩:=hx
 rcases h4 with ⟨rfl,_⟩ | ⟨b,o,rfl,rfl,hra,hb⟩
 · simp at hk
 obtain ⟨cur,e',hcur⟩:=hw b (by simp)
 have hFi:=Cells.flat (xs:=xs) hc
 subst hFi
 have hlx:=Cells.len hc
 have hul:=Rep.len hr
 have hks:(k+1)*Rep.size α≤l.length*Rep.size α:=Nat.mul_le_mul_right _ (by omega)
 rw [Nat.add_mul,Nat.one_mul] at hks
 have hpos:=Rep.pos (α:=α)
 have hcell:∀ j,j<xs.length→cur[o+j]?=xs[j]?:=by
   intro j hj
   have:=hra j xs[j] (by simp [hj])
   simpa [World.cell?,hcur,hj] using this
 have hfit:o+xs.length≤cur.size:=by
   have hj:xs.length-1<xs.length:=by omega
   have:=hcell (xs.length-1) hj
   rw [List.getElem?_eq_getElem hj] at this
   have:=(Array.getElem?_eq_some_iff.1 this).1
   omega
 refine zaF (v:=.pointer (some ⟨b,o+k*Rep.size α,none⟩)) (fun w' _=>?_) ⟨_,zcQ (e:=e') (cur:=cur) he hr hcur (by omega),kk _ ((zbT w b _).mono (by simp)) ?_⟩
 · show (Instr.indexAt t (.slice (some ⟨b,o,none⟩) l.length cap) (.int .i64 (k:Int))).run P w'=_
   rw [zb7 ht he (by omega) (by omega)];simp
 refine ⟨⟨_,⟨some ⟨b,o,none⟩,cap,[],xs.take (k*Rep.size α)++us++xs.drop (k*Rep.size α+Rep.size α),by simp,by simpa using h1,h2,?_,.inr ⟨b,o,rfl,rfl,?_,?_⟩⟩,rfl⟩,hn,?_⟩
 · have:=Cells.set hc k hk hr
   exact Cells.keep this (by simp)
 · intro j u hu
   have hlt:j<(xs.take (k*Rep.size α)++us++xs.drop (k*Rep.size α+Rep.size α)).length:=(List.getElem?_eq_some_iff.1 hu).1
   have hlen:(xs.take (k*Rep.size α)++us++xs.drop (k*Rep.size α+Rep.size α)).length=xs.length:=by
     simp only [List.length_append,List.length_take,List.length_drop,hul];omega
   rw [hlen] at hlt
   simp only [World.cell?,setRow_heap w b cur _ e' _ hcur]
   simp only [Option.isSome_none,Bool.false_eq_true,if_false,List.getElem?_toArray]
   rw [←hu]
   by_cases hj1:j<k*Rep.size α
   · rw [List.append_assoc,List.getElem?_append_left (by simp only [List.length_take,Array.length_toList];omega),List.getElem?_take,if_pos (by omega),Array.getElem?_toList,hcell j hlt,
       List.append_assoc,List.getElem?_append_left (by simp only [List.length_take];omega),List.getElem?_take,if_pos hj1]
   by_cases hj2:j<k*Rep.size α+Rep.size α
   · rw [List.append_assoc,List.getElem?_append_right (by simp only [List.length_take,Array.length_toList];omega),List.getElem?_append_left (by simp only [List.length_take,Array.length_toList];omega),
       List.append_assoc,List.getElem?_append_right (by simp only [List.length_take];omega),List.getElem?_append_left (by simp only [List.length_take];omega)]
     congr 1
     simp only [List.length_take,Array.length_toList];omega
   rw [List.getElem?_append_right (by simp only [List.length_append,List.length_take,Array.length_toList];omega),List.getElem?_append_right (l₁:=xs.take _++us) (by simp only [List.length_append,List.length_take];omega),
     List.getElem?_drop,List.getElem?_drop,Array.getElem?_toList]
   have e1:o+k*Rep.size α+us.length+(o+j-(List.take (o+k*Rep.size α) cur.toList++us).length)=o+j:=by
     simp only [List.length_append,List.length_take,Array.length_toList];omega
   have e2:k*Rep.size α+Rep.size α+(j-(List.take (k*Rep.size α) xs++us).length)=j:=by
     simp only [List.length_append,List.length_take];omega
   rw [e1,e2,hcell j hlt]
 · simpa [World.setRow] using hb
 intro c hc
 simp only [List.mem_cons,List.not_mem_nil,or_false] at hc
 subst hc
 exact ⟨_,e',setRow_heap w c cur _ e' _ hcur⟩
def RowF (F:List Nat) (e:TypeId) (w:World) (v:Value) (l:List α):Prop:=
 ∃ xs Fi,w.ownsRow 0 e (Rep.size α) v l.length xs∧Cells Fi w xs l∧F=v.ownBlock.toList++Fi∧Wr Fi w
def Row (lo:Nat) (e:TypeId) (w:World) (v:Value) (l:List α):Prop:=∃ F,RowF F e w v l∧F.Nodup∧∀ b∈F,lo≤b
theorem RowF.lt {F:List Nat} {e:TypeId} {v:Value} {l:List α} (h:RowF F e w v l):∀ b∈F,b<w.heap.size:=by
 obtain ⟨xs,Fi,ho,hc,rfl,hw⟩:=h
 intro b hb
 rcases List.mem_append.1 hb with hb | hb
 · exact (ho.lt b (by simpa [Option.mem_toList] using hb)).2
 exact Cells.lt hc b hb
theorem RowF.keep {F:List Nat} {e:TypeId} {v:Value} {w':World} {l:List α} (h:RowF F e w v l) (hk:∀ b∈F,w'.heap[b]?=w.heap[b]?):RowF F e w' v l:=by
 obtain ⟨xs,Fi,ho,hc,rfl,hw⟩:=h
 refine ⟨xs,Fi,⟨ho.1,?_⟩,Cells.keep hc fun b hb=>hk b (by simp [hb]),rfl,hw.keep fun b hb=>hk b (by simp [hb])⟩
 rcases ho.2 with hn | ⟨g,cap,cur,rfl,hb,hg,rest⟩
 · exact .inl hn
 exact .inr ⟨g,cap,cur,rfl,hb,by rw [hk g (by simp [Value.ownBlock])];exact hg,rest⟩
theorem RowF.ext {F:List Nat} {e:TypeId} {v:Value} {w':World} {l:List α} (h:RowF F e w v l) (hx:Ext w w'):RowF F e w' v l:=h.keep fun b hb=>hx.heap (h.lt b hb)
theorem Row.ext {lo:Nat} {e:TypeId} {v:Value} {w':World} {l:List α} (h:Row lo e w v l) (hx:Ext w w'):Row lo e w' v l:=by
 obtain ⟨F,h,hn,hb⟩:=h;exact ⟨F,h.ext hx,hn,hb⟩
theorem RowF.own {F:List Nat} {e:TypeId} {v:Value} {l:List α} (h:RowF F e w v l):OwnF F w v l:=by
 have hlt:=h.lt
 obtain ⟨xs,Fi,ho,hc,rfl,hw⟩:=h
 rcases ho.2 with ⟨rfl,hn⟩ | ⟨g,cap,cur,rfl,hb,hg,h1,h2,h3,h4⟩
 · have:l=[]:=List.eq_nil_of_length_eq_zero hn
   subst this
   obtain ⟨rfl,rfl⟩:=hc
   exact ⟨_,⟨none,0,[],[],rfl,Nat.le_refl _,Nat.zero_le _,⟨rfl,rfl⟩,.inl ⟨rfl,rfl⟩⟩,rfl⟩
 refine ⟨_,⟨_,cap,Fi,xs,rfl,h1,h2,hc,.inr ⟨g,0,rfl,rfl,?_,hlt g (by simp [Value.ownBlock])⟩⟩,rfl⟩
 intro j v hv
 have:=ho.cells (g:=g) rfl j v hv
 rwa [Addr.add_mid] at this
theorem RowF.wr {F:List Nat} {e:TypeId} {v:Value} {l:List α} (h:RowF F e w v l):Wr F w:=by
 obtain ⟨xs,Fi,ho,hc,rfl,hw⟩:=h
 refine Wr.append (fun b hb=>?_) hw
 rcases ho.2 with ⟨rfl,hn⟩ | ⟨g,cap,cur,rfl,_,hg,_⟩
 · simp [Value.ownBlock] at hb
 simp [Value.ownBlock] at hb;subst hb;exact ⟨cur,e,hg⟩
theorem Row.own {lo:Nat} {e:TypeId} {v:Value} {l:List α} (h:Row lo e w v l):Own lo w v l:=by
 obtain ⟨F,h,hn,hb⟩:=h
 exact ⟨F,⟨h.own,hn,h.wr⟩,hb⟩
theorem Row.is {lo:Nat} {e:TypeId} {v:Value} {l:List α} (h:Row lo e w v l):Is w v l:=h.own.is
theorem zmE {t e:TypeId} {by_:Nat} {K:Value→World→Prop} (ht:P.underlying t=some (.slice e)) (he:tyI P e=some (Rep.size α,by_,Rep.agg α))
   (k:∀ a w',Ext w w'→Row (α:=α) w.heap.size e w' (.slice (some a) 0 0) []→K (.slice (some a) 0 0) w'):OP P (Instr.buildSlice t 0 #[]) w K:=by
 refine ⟨.slice (some ⟨w.heap.size,0,none⟩) 0 0,w.alloc (.cells #[] e),?_,k _ _ (zaw w _) ⟨[w.heap.size],⟨[],[],?_,⟨rfl,rfl⟩,rfl,Wr.nil _⟩,by simp,by simp⟩⟩
 · have h0:Array.range 0=#[]:=by apply Array.ext';simp
   simp [Instr.buildSlice,run_underlying ht,zar he,Instr.fill,newRow,h0]
 exact World.ownsRow_made w #[] 0 (Nat.zero_le _) (Nat.zero_le _) (by simp)
theorem zgh {t ty e:TypeId} {s by_:Nat} {g:Bool} (ht:P.underlying t=some (.slice e)) (he:tyI P e=some (s,by_,g)) {v:Value} {n:Nat} {xs:List Value} (ho:w.ownsRow 0 e s v n xs) (a:Option Addr) (c:Nat) :
   (Builtin.append_ #[t,t] ty #[v,.slice a 0 c]).run P w=.ok v w:=by
 have hf:(Builtin.firstCells s 0 (.slice a 0 c)).run P w=.ok #[] w:=by
   cases a with
   | none=>rfl
   | some a=>simp [Builtin.firstCells,loadCells,loadCellsFrom]
 rcases ho.2 with ⟨rfl,rfl⟩ | ⟨g,cap,cur,rfl,_,_,hnc,_⟩
 · simp [Builtin.append_,run_underlying ht,zar he,Builtin.lenOf,hf]
 simp [Builtin.append_,run_underlying ht,zar he,Builtin.lenOf,hf,hnc,storeCells]
theorem zeW {t ty e:TypeId} {by_:Nat} {K:Value→World→Prop} {v src:Value} {l m:List α} {F:List Nat} (ht:P.underlying t=some (.slice e)) (he:tyI P e=some (Rep.size α,by_,Rep.agg α)) (hz:(P.info? e).map (fun i=>(i.zero.map (·.cells.size)))=some (some (Rep.size α)))
   (hr:RowF F e w v l) (hn:F.Nodup) {a:Option Addr} {c:Nat} {xs:List Value} {G:List Nat} (hs:src=.slice a m.length c) (hc:Cells G w xs m) (ha:m=[]∨∃ b o,a=some ⟨b,o,none⟩∧w.rangeAt b o xs)
   (hG:Wr G w) (hd:(G++F).Nodup) (hm:l.length+m.length≤maxLen) (hb:(l.length+m.length)*by_≤140737488355328)
   (k:∀ v' w' F',Chg v.ownBlock.toList w w'→(∀ a,v=.slice a l.length l.length→Ext w w')→RowF F' e w' v' (l++m)→F'.Nodup→(∀ b∈F',b∈F∨b∈G∨w.heap.size≤b)→K v' w'):OP P (Builtin.append_ #[t,t] ty [v,src].toArray) w K:=by
 subst hs
 obtain ⟨xs0,Fi,ho,hc0,rfl,hwF⟩:=hr
 by_cases hm0:m=[]
 · subst hm0
   obtain ⟨rfl,rfl⟩:=hc
   refine ⟨v,w,zgh ht he ho a c,k v w _ (Chg.refl _ _) (fun _ _=>Ext.refl w) (by simpa using ⟨xs0,Fi,ho,hc0,rfl,hwF⟩) hn (fun b hb=>.inl hb)⟩
 rcases ha with h | ⟨b,o,rfl,hra⟩
 · exact absurd h hm0
 obtain ⟨i,d,hi,hd',hs,hby,hg⟩:=zbj he
 simp only [hi,Option.map_some,Option.some.injEq] at hz
 obtain ⟨z,hz,hzs⟩:=Option.map_eq_some_iff.1 hz
 obtain ⟨v',w',hrun,hown',hgrow,hnil⟩:=run_append_own (P:=P) w 0 t ty e i z (Rep.size α) by_ ht hi hz hs hby hzs Rep.pos v l.length xs0 ho ⟨b,o,none⟩ m.length c xs (Cells.len hc)
   (fun j u hu=>by rw [Addr.add_mid];exact hra j u hu) (Cells.one hc) hm hb (Nat.zero_le _)
 have hchg:=ziG hgrow
 have kF:∀ b∈Fi,w'.heap[b]?=w.heap[b]?:=fun b hb=>hchg.block b (Cells.lt hc0 b hb) (fun e=>by
   rw [List.nodup_append] at hn;exact hn.2.2 b e b hb rfl)
 have kG:∀ b∈G,w'.heap[b]?=w.heap[b]?:=fun b hb=>hchg.block b (Cells.lt hc b hb) (fun e=>by
   rw [List.nodup_append] at hd;exact hd.2.2 b hb b (by simp only [List.mem_append];exact .inl e) rfl)
 have hvb:∀ q,v'.ownBlock=some q→v.ownBlock=some q∨w.heap.size≤q:=by
   intro q hq
   rcases Nat.lt_or_ge q w.heap.size with hlt | hge
   · left
     -- an old block that is now the row's: it was the row's
     by_cases hv0:v.ownBlock=some q
     · exact hv0
     exfalso
     rcases ho.2 with ⟨rfl,hl0⟩ | ⟨g,cap,cur,rfl,_,hgg,h1,h2,h3,h4⟩
     · -- grown out of nil: the block is new
       have hx0:xs0=[]:=List.eq_nil_of_length_eq_zero (by simpa [hl0] using ho.1)
       have hml:0<m.length:=List.length_pos_iff.2 hm0
       have hr2:=run_append_nil (P:=P) w t ty e i z ht hi hz ⟨b,o,none⟩ m.length c xs (by rw [hs];exact Cells.len hc) (fun j u hu=>by rw [Addr.add_mid];exact hra j u hu) hml (by rw [zak] at hm;omega) (by rw [hby];have:=hb;rw [Nat.add_mul] at this;omega)
       have hrun':(Builtin.append_ #[t,t] ty #[.slice none 0 0,.slice (some ⟨b,o,none⟩) m.length c]).run P w=.ok v' w':=hrun
       rw [hr2] at hrun'
       simp only [Result.ok.injEq] at hrun'
       rw [←hrun'.1] at hq
       simp [Value.ownBlock] at hq
       omega
     by_cases hroom:l.length+m.length≤cap
     · have hfit:l.length*i.size+xs.length≤cur.size:=by rw [Cells.len hc,h3,hs,←Nat.add_mul];exact Nat.mul_le_mul_right _ hroom
       have hr2:=run_append_room (P:=P) w t ty e i ht hi g l.length cap cur hgg ⟨b,o,none⟩ m.length c xs (by rw [hs];exact Cells.len hc) (fun j u hu=>by rw [Addr.add_mid];exact hra j u hu) (Cells.one hc) hroom hfit
       have hrun':(Builtin.append_ #[t,t] ty #[.slice (some ⟨g,0,none⟩) l.length cap,.slice (some ⟨b,o,none⟩) m.length c]).run P w=.ok v' w':=hrun
       rw [hr2] at hrun'
       simp only [Result.ok.injEq] at hrun'
       rw [←hrun'.1] at hq
       simp [Value.ownBlock] at hq hv0
       exact hv0 hq
     have hr2:=run_append_grow (P:=P) w t ty e i z ht hi hz ⟨g,0,none⟩ l.length cap xs0 (by rw [hs];exact ho.1) (ho.cells (g:=g) rfl) ⟨b,o,none⟩ m.length c xs (by rw [hs];exact Cells.len hc) (fun j u hu=>by rw [Addr.add_mid];exact hra j u hu) (by omega) (by rw [zak] at hm;omega) (growslice_fits (by omega) (by rw [hby];exact hb))
     have hrun':(Builtin.append_ #[t,t] ty #[.slice (some ⟨g,0,none⟩) l.length cap,.slice (some ⟨b,o,none⟩) m.length c]).run P w=.ok v' w':=hrun
     rw [hr2] at hrun'
     simp only [Result.ok.injEq] at hrun'
     rw [←hrun'.1] at hq
     simp [Value.ownBlock] at hq
     omega
   exact .inr hge
 have hfull:∀ a,v=.slice a l.length l.length→Ext w w':=by
   intro a hva
   have hml:0<m.length:=List.length_pos_iff.2 hm0
   rcases ho.2 with ⟨rfl,hl0⟩ | ⟨g,cap,cur,rfl,_,hgg,h1,h2,h3,h4⟩
   · have hr2:=run_append_nil (P:=P) w t ty e i z ht hi hz ⟨b,o,none⟩ m.length c xs (by rw [hs];exact Cells.len hc) (fun j u hu=>by rw [Addr.add_mid];exact hra j u hu) hml (by rw [zak] at hm;omega) (by rw [hby];have:=hb;rw [Nat.add_mul] at this;omega)
     have hrun':(Builtin.append_ #[t,t] ty #[.slice none 0 0,.slice (some ⟨b,o,none⟩) m.length c]).run P w=.ok v' w':=hrun
     rw [hr2] at hrun'
     simp only [Result.ok.injEq] at hrun'
     rw [←hrun'.2]
     exact (zao w).trans (zaw w.drew _)
   simp only [Value.slice.injEq,true_and] at hva
   have hr2:=run_append_grow (P:=P) w t ty e i z ht hi hz ⟨g,0,none⟩ l.length cap xs0 (by rw [hs];exact ho.1) (ho.cells (g:=g) rfl) ⟨b,o,none⟩ m.length c xs (by rw [hs];exact Cells.len hc) (fun j u hu=>by rw [Addr.add_mid];exact hra j u hu) (by omega) (by rw [zak] at hm;omega) (growslice_fits (by omega) (by rw [hby];exact hb))
   have hrun':(Builtin.append_ #[t,t] ty #[.slice (some ⟨g,0,none⟩) l.length cap,.slice (some ⟨b,o,none⟩) m.length c]).run P w=.ok v' w':=hrun
   rw [hr2] at hrun'
   simp only [Result.ok.injEq] at hrun'
   rw [←hrun'.2]
   exact (zao w).trans (zaw w.drew _)
 refine ⟨v',w',hrun,k v' w' (v'.ownBlock.toList++(Fi++G)) hchg hfull ⟨xs0++xs,Fi++G,by simpa using hown',Cells.append (Cells.keep hc0 kF) (Cells.keep hc kG),rfl,(hwF.keep kF).append (hG.keep kG)⟩ ?_ ?_⟩
 · have hltF:∀ b∈Fi,b<w.heap.size:=Cells.lt hc0
   have hltG:∀ b∈G,b<w.heap.size:=Cells.lt hc
   rw [List.nodup_append] at hd hn
   rw [List.nodup_append,List.nodup_append]
   refine ⟨by cases v'.ownBlock<;>simp,⟨hn.2.1,hd.1,fun x hx y hy e=>hd.2.2 y hy x (by simp [hx]) e.symm⟩,?_⟩
   intro x hx y hy e
   subst e
   rcases hvb x (by simpa [Option.mem_toList] using hx) with h | h
   · rcases List.mem_append.1 hy with hy | hy
     · exact hn.2.2 x (by simp [h]) x hy rfl
     exact hd.2.2 x hy x (by simp [h]) rfl
   rcases List.mem_append.1 hy with hy | hy
   · have:=hltF x hy;omega
   have:=hltG x hy;omega
 intro x hx
 rcases List.mem_append.1 hx with hx | hx
 · rcases hvb x (by simpa [Option.mem_toList] using hx) with h | h
   · exact .inl (by simp [h])
   exact .inr (.inr h)
 rcases List.mem_append.1 hx with hx | hx
 · exact .inl (by simp [hx])
 exact .inr (.inl hx)
end
end Go.Sh
namespace Go.Proofs.YtcnglfeoglgebaaGreat
open Go Go.Sh Go.Proofs
def cnt (k:Int) (n:Nat):List Int:=(List.range n).map fun i:Nat=>k+(i:Int)
theorem u2:Tryz.prog.underlying 2=some (TypeDesc.int IntKind.i64):=by kernel_rfl
theorem ty3:tyI Tryz.prog 3=some (1,8,false):=by kernel_rfl
theorem u3:Tryz.prog.underlying 3=some (TypeDesc.int IntKind.i64):=by kernel_rfl
theorem z3:zbd Tryz.prog 3=true:=by kernel_rfl
theorem zc3:(Tryz.prog.info? 3).map (fun i=>(i.zero.map (·.cells.size)))=some (some 1):=by kernel_rfl
theorem ty4:tyI Tryz.prog 4=some (1,1,false):=by kernel_rfl
theorem u4:Tryz.prog.underlying 4=some TypeDesc.bool:=by kernel_rfl
theorem z4:zbd Tryz.prog 4=true:=by kernel_rfl
theorem ty5:tyI Tryz.prog 5=some (1,1,false):=by kernel_rfl
theorem u5:Tryz.prog.underlying 5=some (TypeDesc.int IntKind.u8):=by kernel_rfl
theorem z5:zbd Tryz.prog 5=true:=by kernel_rfl
theorem u6:Tryz.prog.underlying 6=some (TypeDesc.int IntKind.u8):=by kernel_rfl
theorem ty9:tyI Tryz.prog 9=some (1,16,false):=by kernel_rfl
theorem u9:Tryz.prog.underlying 9=some TypeDesc.string:=by kernel_rfl
theorem z9:zbd Tryz.prog 9=true:=by kernel_rfl
theorem zc9:(Tryz.prog.info? 9).map (fun i=>(i.zero.map (·.cells.size)))=some (some 1):=by kernel_rfl
theorem u10:Tryz.prog.underlying 10=some TypeDesc.string:=by kernel_rfl
theorem u11:Tryz.prog.underlying 11=some TypeDesc.string:=by kernel_rfl
theorem u12:Tryz.prog.underlying 12=some (TypeDesc.int IntKind.u64):=by kernel_rfl
theorem u21:Tryz.prog.underlying 21=some (TypeDesc.int IntKind.i32):=by kernel_rfl
theorem zsb:tyI Tryz.prog 22=some (1,24,false):=by kernel_rfl
theorem u22:Tryz.prog.underlying 22=some (TypeDesc.slice 5):=by kernel_rfl
theorem z22:zbd Tryz.prog 22=true:=by kernel_rfl
theorem zdQ:tyI Tryz.prog 24=some (1,24,false):=by kernel_rfl
theorem u24:Tryz.prog.underlying 24=some (TypeDesc.slice 9):=by kernel_rfl
theorem zrh:tyI Tryz.prog 25=some (1,24,false):=by kernel_rfl
theorem u25:Tryz.prog.underlying 25=some (TypeDesc.slice 32):=by kernel_rfl
theorem z25:zbd Tryz.prog 25=true:=by kernel_rfl
theorem zow:tyI Tryz.prog 27=some (3,72,true):=by kernel_rfl
theorem zsc:zbt Tryz.prog 27=some [.slice none 0 0,.slice none 0 0,.slice none 0 0]:=by kernel_rfl
theorem ziH:zcE Tryz.prog 27 0=some 0:=by kernel_rfl
theorem zkP:zcE Tryz.prog 27 1=some 1:=by kernel_rfl
theorem ziI:zcE Tryz.prog 27 2=some 2:=by kernel_rfl
theorem zfV:tyI Tryz.prog 29=some (1,24,false):=by kernel_rfl
theorem u29:Tryz.prog.underlying 29=some (TypeDesc.slice 56):=by kernel_rfl
theorem zkQ:tyI Tryz.prog 32=some (2,40,true):=by kernel_rfl
theorem zq4:zbt Tryz.prog 32=some [.string ByteArray.empty,.slice none 0 0]:=by kernel_rfl
theorem zpw:zcE Tryz.prog 32 0=some 0:=by kernel_rfl
theorem zmF:zcE Tryz.prog 32 1=some 1:=by kernel_rfl
theorem zeL:tyI Tryz.prog 33=some (1,24,false):=by kernel_rfl
theorem u33:Tryz.prog.underlying 33=some (TypeDesc.slice 3):=by kernel_rfl
theorem zdG:tyI Tryz.prog 34=some (1,24,false):=by kernel_rfl
theorem u34:Tryz.prog.underlying 34=some (TypeDesc.slice 84):=by kernel_rfl
theorem zfm:tyI Tryz.prog 36=some (5,120,true):=by kernel_rfl
theorem zrN:zbt Tryz.prog 36=some [.slice none 0 0,.slice none 0 0,.slice none 0 0,.slice none 0 0,.slice none 0 0]:=by kernel_rfl
theorem zgi:zcE Tryz.prog 36 0=some 0:=by kernel_rfl
theorem zhi:zcE Tryz.prog 36 1=some 1:=by kernel_rfl
theorem zc5:zcE Tryz.prog 36 2=some 2:=by kernel_rfl
theorem zbJ:zcE Tryz.prog 36 3=some 3:=by kernel_rfl
theorem zaK:zcE Tryz.prog 36 4=some 4:=by kernel_rfl
theorem u39:Tryz.prog.underlying 39=some (TypeDesc.slice 58):=by kernel_rfl
theorem z39:zbd Tryz.prog 39=true:=by kernel_rfl
theorem z45:zbd Tryz.prog 45=true:=by kernel_rfl
theorem z46:zbd Tryz.prog 46=true:=by kernel_rfl
theorem zlL:tyI Tryz.prog 51=some (1,24,false):=by kernel_rfl
theorem u51:Tryz.prog.underlying 51=some (TypeDesc.slice 53):=by kernel_rfl
theorem zcn:tyI Tryz.prog 53=some (4,56,true):=by kernel_rfl
theorem z53:zbd Tryz.prog 53=true:=by kernel_rfl
theorem zsr:(Tryz.prog.info? 53).map (fun i=>(i.zero.map (·.cells.size)))=some (some 4):=by kernel_rfl
theorem zqb:zbt Tryz.prog 53=some [.int .i64 0,.int .i64 0,.string ByteArray.empty,.slice none 0 0]:=by kernel_rfl
theorem zkR:zcE Tryz.prog 53 0=some 0:=by kernel_rfl
theorem zhj:zcE Tryz.prog 53 1=some 1:=by kernel_rfl
theorem zhk:zcE Tryz.prog 53 2=some 2:=by kernel_rfl
theorem zc6:zcE Tryz.prog 53 3=some 3:=by kernel_rfl
theorem z55:zbd Tryz.prog 55=true:=by kernel_rfl
theorem zc7:tyI Tryz.prog 56=some (8,128,true):=by kernel_rfl
theorem z56:zbd Tryz.prog 56=true:=by kernel_rfl
theorem zq5:(Tryz.prog.info? 56).map (fun i=>(i.zero.map (·.cells.size)))=some (some 8):=by kernel_rfl
theorem zoj:zbt Tryz.prog 56=some [.int .i64 0,.string ByteArray.empty,.int .i64 0,.int .i64 0,.string ByteArray.empty,.slice none 0 0,.slice none 0 0,.slice none 0 0]:=by kernel_rfl
theorem ziJ:zcE Tryz.prog 56 0=some 0:=by kernel_rfl
theorem zc8:zcE Tryz.prog 56 1=some 1:=by kernel_rfl
theorem zdR:zcE Tryz.prog 56 2=some 2:=by kernel_rfl
theorem zer:zcE Tryz.prog 56 3=some 6:=by kernel_rfl
theorem zdS:zcE Tryz.prog 56 4=some 7:=by kernel_rfl
theorem zfQ:tyI Tryz.prog 58=some (3,24,true):=by kernel_rfl
theorem z58:zbd Tryz.prog 58=true:=by kernel_rfl
theorem zsd:(Tryz.prog.info? 58).map (fun i=>(i.zero.map (·.cells.size)))=some (some 3):=by kernel_rfl
theorem zrV:zbt Tryz.prog 58=some [.int .i64 0,.int .i64 0,.int .i64 0]:=by kernel_rfl
theorem zpx:zcE Tryz.prog 58 0=some 0:=by kernel_rfl
theorem zpy:zcE Tryz.prog 58 1=some 1:=by kernel_rfl
theorem zpz:zcE Tryz.prog 58 2=some 2:=by kernel_rfl
theorem zem:tyI Tryz.prog 84=some (7,80,true):=by kernel_rfl
theorem z84:zbd Tryz.prog 84=true:=by kernel_rfl
theorem zse:(Tryz.prog.info? 84).map (fun i=>(i.zero.map (·.cells.size)))=some (some 7):=by kernel_rfl
theorem zqc:zbt Tryz.prog 84=some [.int .i64 0,.int .i64 0,.int .i64 0,.int .i64 0,.string ByteArray.empty,.slice none 0 0,.int .i64 0]:=by kernel_rfl
theorem zbK:zcE Tryz.prog 84 0=some 0:=by kernel_rfl
theorem zcl:zcE Tryz.prog 84 1=some 1:=by kernel_rfl
theorem zhl:zcE Tryz.prog 84 2=some 2:=by kernel_rfl
theorem zeX:zcE Tryz.prog 84 3=some 6:=by kernel_rfl
theorem zmG:tyI Tryz.prog 90=some (1,24,false):=by kernel_rfl
theorem u90:Tryz.prog.underlying 90=some (TypeDesc.slice 4):=by kernel_rfl
theorem zaU:zcE Tryz.prog 92 0=some 0:=by kernel_rfl
theorem zkS:zcE Tryz.prog 92 1=some 5:=by kernel_rfl
theorem zkT:zcE Tryz.prog 92 2=some 6:=by kernel_rfl
theorem zmH:zcE Tryz.prog 92 3=some 7:=by kernel_rfl
theorem ziK:zcE Tryz.prog 92 4=some 8:=by kernel_rfl
theorem zgj:zcE Tryz.prog 92 5=some 9:=by kernel_rfl
theorem zgk:zcE Tryz.prog 92 6=some 10:=by kernel_rfl
theorem zmI:Tryz.prog.underlying 105=some (TypeDesc.int IntKind.u64):=by kernel_rfl
theorem zmJ:zcE Tryz.prog 125 0=some 0:=by kernel_rfl
theorem zhS:zcE Tryz.prog 125 1=some 1:=by kernel_rfl
theorem zhT:zcE Tryz.prog 125 2=some 2:=by kernel_rfl
theorem zpA:Tryz.prog.underlying 133=some (TypeDesc.slice 138):=by kernel_rfl
theorem zen:tyI Tryz.prog 138=some (4,32,true):=by kernel_rfl
theorem zsf:zbd Tryz.prog 138=true:=by kernel_rfl
theorem zqd:(Tryz.prog.info? 138).map (fun i=>(i.zero.map (·.cells.size)))=some (some 4):=by kernel_rfl
theorem zri:zbt Tryz.prog 138=some [.int .i64 0,.int .i64 0,.bool false,.int .i64 0]:=by kernel_rfl
theorem zfq:zcE Tryz.prog 138 0=some 0:=by kernel_rfl
theorem zjR:zcE Tryz.prog 138 1=some 1:=by kernel_rfl
theorem zmK:zcE Tryz.prog 138 2=some 2:=by kernel_rfl
theorem zhU:zcE Tryz.prog 138 3=some 3:=by kernel_rfl
theorem zq6:Tryz.prog.underlying 172=some (TypeDesc.slice 244):=by kernel_rfl
theorem zmL:tyI Tryz.prog 244=some (2,16,true):=by kernel_rfl
theorem zss:zbd Tryz.prog 244=true:=by kernel_rfl
theorem zrW:(Tryz.prog.info? 244).map (fun i=>(i.zero.map (·.cells.size)))=some (some 2):=by kernel_rfl
theorem zqe:zcE Tryz.prog 244 0=some 0:=by kernel_rfl
theorem zjS:zcE Tryz.prog 244 1=some 1:=by kernel_rfl
end Go.Proofs.YtcnglfeoglgebaaGreat
namespace Go.Sh
open Go.RowKit (Below)
open Rep (rep)
def OAt {α:Type} [Rep α] (G:List Nat) (w:World) (b o:Nat) (x:α):Prop:=
 ∃ cs,rep G w cs x∧w.rangeAt b o cs∧G.Nodup∧Wr G w∧b∉G∧∃ c e,w.heap[b]?=some (.cells c e (0,0))
structure ChgAt (b o n:Nat) (G:List Nat) (w w':World):Prop where
 chg:Chg (b :: G) w w'
 cell:∀ c e,w.heap[b]?=some (.cells c e (0,0))→∃ c',w'.heap[b]?=some (.cells c' e (0,0))∧∀ j,(j<o∨o+n≤j)→c'[j]?=c[j]?
theorem ChgAt.mono {b o n o' n':Nat} {G G':List Nat} {w w':World} (h:ChgAt b o n G w w') (ho:o'≤o) (hn:o+n≤o'+n') (hG:∀ c∈G,c∈G'):ChgAt b o' n' G' w w':=
 ⟨h.chg.mono fun x hx=>by
   rcases List.mem_cons.1 hx with rfl | hx
   · simp
   · exact List.mem_cons_of_mem _ (hG x hx),fun c e hc=>by
   obtain ⟨c',h1,h2⟩:=h.cell c e hc
   exact ⟨c',h1,fun j hj=>h2 j (by omega)⟩⟩
section
variable {P:Program} {w w0:World} {α β:Type} [Rep α] [Rep β]
theorem ChgAt.range {b o n o':Nat} {G:List Nat} {w':World} {cs:List Value} (h:ChgAt b o n G w w') (hw:∃ c e,w.heap[b]?=some (.cells c e (0,0))) (hr:w.rangeAt b o' cs) (hd:o'+cs.length≤o∨o+n≤o'):w'.rangeAt b o' cs:=by
 obtain ⟨c,e,hc⟩:=hw
 obtain ⟨c',h1,h2⟩:=h.cell c e hc
 intro j v hv
 have hj:j<cs.length:=(List.getElem?_eq_some_iff.1 hv).1
 have:=hr j v hv
 simp only [World.cell?,hc,h1] at this ⊢
 simp only [Option.isSome_none,Bool.false_eq_true,if_false] at this ⊢
 rw [h2 (o'+j) (by omega)];exact this
theorem OAt.at {G:List Nat} {b o:Nat} {x:α} (h:OAt G w b o x):At w b o x:=by
 obtain ⟨cs,hr,ha,_⟩:=h;exact ⟨G,cs,hr,ha⟩
theorem OAt.lt {G:List Nat} {b o:Nat} {x:α} (h:OAt G w b o x):b<w.heap.size:=by
 obtain ⟨cs,_,_,_,_,_,c,e,hc⟩:=h;exact (Array.getElem?_eq_some_iff.1 hc).1
structure Lens (H:List Nat→World→α→Prop) (S:List Nat) (w:World) (b o:Nat) (G:List Nat) (y:β) (upd:β→α):Prop where
 here:OAt G w b o y
 sub:∀ c∈b :: G,c∈S
 back:∀ w' G' y',ChgAt b o (Rep.size β) G w w'→OAt G' w' b o y'→(∀ c∈G',c∈G∨c∉S)→∃ F',H F' w' (upd y')∧∀ c∈F',c∈S∨c∈G'
abbrev MH (v:Value):List Nat→World→α→Prop:=fun F w x=>Mine F w v x
abbrev VH (g:Nat):List Nat→World→α→Prop:=fun F w x=>OAt F w g 0 x
theorem Lens.var {F:List Nat} {g:Nat} {x:α} (h:OAt F w g 0 x):Lens (VH g) (g :: F) w g 0 F x (fun y=>y):=
 ⟨h,fun _ h=>h,fun w' G' y' _ hO _=>⟨G',hO,fun c hc=>.inr hc⟩⟩
theorem ziL {F1 F2 G G':List Nat} {b:Nat} (h:(b :: (F1++(G++F2))).Nodup) (hG:G'.Nodup) (hs:∀ c∈G',c∈G∨c∉b :: (F1++(G++F2))):(b :: (F1++(G'++F2))).Nodup:=by
 rw [List.nodup_cons] at h ⊢
 obtain ⟨hb,h⟩:=h
 rw [List.nodup_append] at h ⊢
 obtain ⟨h1,h2,h3⟩:=h
 rw [List.nodup_append] at h2 ⊢
 obtain ⟨h4,h5,h6⟩:=h2
 refine ⟨fun hm=>?_,h1,⟨hG,h5,fun a ha c hc e=>?_⟩,fun a ha c hc e=>?_⟩
 · rcases List.mem_append.1 hm with hm | hm
   · exact hb (by simp [hm])
   rcases List.mem_append.1 hm with hm | hm
   · rcases hs _ hm with h' | h'
     · exact hb (by simp [h'])
     exact h' (by simp)
   exact hb (by simp [hm])
 · subst e
   rcases hs _ ha with h' | h'
   · exact h6 a h' a hc rfl
   exact h' (by simp [hc])
 subst e
 rcases List.mem_append.1 hc with hc | hc
 · rcases hs _ hc with h' | h'
   · exact h3 a ha a (by simp [h']) rfl
   exact h' (by simp [ha])
 exact h3 a ha a (by simp [hc]) rfl
theorem zrj {F:List Nat} {v:Value} {l:List α} {k:Nat} (hm:Mine F w v l) (hk:k<l.length) :
   ∃ b a cap G,v=.slice (some ⟨b,a,none⟩) l.length cap∧Lens (MH v) F w b (a+k*Rep.size α) G l[k] (fun y=>l.set k y):=by
 obtain ⟨⟨cs,⟨a,cap,Fi,xs,rfl,h1,h2,hc,h4⟩,rfl⟩,hn,hw⟩:=hm
 rcases h4 with ⟨rfl,_⟩ | ⟨b,o,rfl,rfl,hra,hb⟩
 · simp at hk
 have e:l=l.take k++(l[k] :: l.drop (k+1)):=by simp
 have hc':=hc
 rw [e] at hc'
 obtain ⟨F1,F2',x1,x2',hFi,hxs,c1,c2'⟩:=Cells.split hc'
 obtain ⟨G,F2,cg,x2,rfl,rfl,hg,c2⟩:=c2'
 subst hFi hxs
 have hl1:x1.length=k*Rep.size α:=by rw [Cells.len c1,List.length_take];congr 1;omega
 have hlg:=Rep.len hg
 have hn':=hn
 rw [List.nodup_cons] at hn
 obtain ⟨hbn,hn⟩:=hn
 rw [List.nodup_append] at hn
 obtain ⟨hn1,hn2,hn3⟩:=hn
 rw [List.nodup_append] at hn2
 obtain ⟨hnG,hnF2,hn4⟩:=hn2
 obtain ⟨r1,r2⟩:=zaq hra
 obtain ⟨rg,r3⟩:=zaq r2
 rw [hl1] at rg r3
 have hwb:∃ c e,w.heap[b]?=some (.cells c e (0,0)):=hw b (by simp)
 refine ⟨b,o,cap,G,rfl,⟨cg,hg,rg,hnG,hw.sub (by simp +contextual),fun h=>hbn (by simp [h]),hwb⟩,by simp +contextual,fun w' G' y' hch hO hs=>?_⟩
 obtain ⟨cg',hg',rg',hnG',hwG',hbG',hwb'⟩:=hO
 have hlg':=Rep.len hg'
 have keep1:∀ c∈F1,w'.heap[c]?=w.heap[c]?:=fun c hc1=>by
   refine hch.chg.block c (Cells.lt c1 c hc1) fun hm=>?_
   rcases List.mem_cons.1 hm with rfl | hm
   · exact hbn (by simp [hc1])
   exact hn3 c hc1 c (by simp [hm]) rfl
 have keep2:∀ c∈F2,w'.heap[c]?=w.heap[c]?:=fun c hc1=>by
   refine hch.chg.block c (Cells.lt c2 c hc1) fun hm=>?_
   rcases List.mem_cons.1 hm with rfl | hm
   · exact hbn (by simp [hc1])
   exact hn4 c hm c hc1 rfl
 refine ⟨b :: (F1++(G'++F2)),⟨⟨_,⟨some ⟨b,o,none⟩,cap,F1++(G'++F2),x1++(cg'++x2),by simp,by simpa using h1,h2,?_,.inr ⟨b,o,rfl,rfl,?_,?_⟩⟩,rfl⟩,ziL hn' hnG' hs,?_⟩,?_⟩
 · have:l.set k y'=l.take k++(y' :: l.drop (k+1)):=by rw [List.set_eq_take_append_cons_drop];simp [hk]
   rw [this]
   exact Cells.append (Cells.keep c1 keep1) ⟨G',F2,cg',x2,rfl,rfl,hg',Cells.keep c2 keep2⟩
 · refine zcP (hch.range hwb r1 (.inl (by omega))) (zcP (by rw [hl1];exact rg') ?_)
   have e3:o+x1.length+cg'.length=o+k*Rep.size α+cg.length:=by omega
   rw [e3]
   exact hch.range hwb r3 (.inr (by omega))
 · obtain ⟨c,e,h⟩:=hwb';exact (Array.getElem?_eq_some_iff.1 h).1
 · intro c hcm
   rcases List.mem_cons.1 hcm with rfl | hcm
   · exact hwb'
   rcases List.mem_append.1 hcm with hcm | hcm
   · exact (hw.sub (G:=F1) (by simp +contextual)).keep keep1 c hcm
   rcases List.mem_append.1 hcm with hcm | hcm
   · exact hwG' c hcm
   exact (hw.sub (G:=F2) (by simp +contextual)).keep keep2 c hcm
 intro c hcm
 rcases List.mem_cons.1 hcm with rfl | hcm
 · exact .inl (by simp)
 rcases List.mem_append.1 hcm with hcm | hcm
 · exact .inl (by simp [hcm])
 rcases List.mem_append.1 hcm with hcm | hcm
 · exact .inr hcm
 exact .inl (by simp [hcm])
section pair
variable {γ:Type}
theorem Lens.fst {H:List Nat→World→γ→Prop} {F:List Nat} {b o:Nat} {G:List Nat} {p:α×β} {upd:α×β→γ} (h:Lens H F w b o G p upd) :
   ∃ G1,Lens H F w b o G1 p.1 (fun y=>upd (y,p.2)):=by
 obtain ⟨⟨cs,⟨G1,G2,c1,c2,rfl,rfl,h1,h2⟩,hr,hn,hw,hb,hwb⟩,hsub,hback⟩:=h
 obtain ⟨r1,r2⟩:=zaq hr
 have hl1:=Rep.len h1
 have hl2:=Rep.len h2
 have hn':=hn
 rw [List.nodup_append] at hn
 obtain ⟨hn1,hn2,hn3⟩:=hn
 simp only [List.mem_append,not_or] at hb
 refine ⟨G1,⟨c1,h1,r1,hn1,hw.sub (by simp +contextual),hb.1,hwb⟩,fun c hc=>hsub c (by rcases List.mem_cons.1 hc with rfl | hc<;>simp_all),fun w' G' y' hch hO hs=>?_⟩
 obtain ⟨c1',h1',r1',hn1',hw1',hb1',hwb'⟩:=hO
 have keep2:∀ c∈G2,w'.heap[c]?=w.heap[c]?:=fun c hc=>by
   refine hch.chg.block c (Rep.lt h2 c hc) fun hm=>?_
   rcases List.mem_cons.1 hm with rfl | hm
   · exact hb.2 hc
   exact hn3 c hm c hc rfl
 have hs':∀ c∈G'++G2,c∈G1++G2∨c∉F:=fun c hc=>by
   rcases List.mem_append.1 hc with hc | hc
   · rcases hs c hc with h | h
     · exact .inl (by simp [h])
     exact .inr h
   exact .inl (by simp [hc])
 have hnG:(G'++G2).Nodup:=by
   rw [List.nodup_append]
   refine ⟨hn1',hn2,fun a ha c hc e=>?_⟩
   subst e
   rcases hs a ha with h | h
   · exact hn3 a h a hc rfl
   exact h (hsub a (by simp [hc]))
 obtain ⟨F',hM,hF'⟩:=hback w' (G'++G2) (y',p.2) (hch.mono (Nat.le_refl _) (by simp only [Rep.size];omega) (by simp +contextual))
   ⟨c1'++c2,⟨G',G2,c1',c2,rfl,rfl,h1',Rep.keep h2 keep2⟩,zcP r1' (by
     rw [Rep.len h1',←hl1];exact hch.range hwb r2 (.inr (by rw [hl1];exact Nat.le_refl _))),hnG,hw1'.append ((hw.sub (by simp +contextual)).keep keep2),by simp [hb1',hb.2],hwb'⟩ hs'
 refine ⟨F',hM,fun c hc=>?_⟩
 rcases hF' c hc with h | h
 · exact .inl h
 rcases List.mem_append.1 h with h | h
 · exact .inr h
 exact .inl (hsub c (by simp [h]))
theorem Lens.snd {H:List Nat→World→γ→Prop} {F:List Nat} {b o:Nat} {G:List Nat} {p:α×β} {upd:α×β→γ} (h:Lens H F w b o G p upd) :
   ∃ G1,Lens H F w b (o+Rep.size α) G1 p.2 (fun y=>upd (p.1,y)):=by
 obtain ⟨⟨cs,⟨G1,G2,c1,c2,rfl,rfl,h1,h2⟩,hr,hn,hw,hb,hwb⟩,hsub,hback⟩:=h
 obtain ⟨r1,r2⟩:=zaq hr
 have hl1:=Rep.len h1
 have hl2:=Rep.len h2
 have hn':=hn
 rw [List.nodup_append] at hn
 obtain ⟨hn1,hn2,hn3⟩:=hn
 simp only [List.mem_append,not_or] at hb
 rw [hl1] at r2
 refine ⟨G2,⟨c2,h2,r2,hn2,hw.sub (by simp +contextual),hb.2,hwb⟩,fun c hc=>hsub c (by rcases List.mem_cons.1 hc with rfl | hc<;>simp_all),fun w' G' y' hch hO hs=>?_⟩
 obtain ⟨c2',h2',r2',hn2',hw2',hb2',hwb'⟩:=hO
 have keep1:∀ c∈G1,w'.heap[c]?=w.heap[c]?:=fun c hc=>by
   refine hch.chg.block c (Rep.lt h1 c hc) fun hm=>?_
   rcases List.mem_cons.1 hm with rfl | hm
   · exact hb.1 hc
   exact hn3 c hc c hm rfl
 have hs':∀ c∈G1++G',c∈G1++G2∨c∉F:=fun c hc=>by
   rcases List.mem_append.1 hc with hc | hc
   · exact .inl (by simp [hc])
   rcases hs c hc with h | h
   · exact .inl (by simp [h])
   exact .inr h
 have hnG:(G1++G').Nodup:=by
   rw [List.nodup_append]
   refine ⟨hn1,hn2',fun a ha c hc e=>?_⟩
   subst e
   rcases hs a hc with h | h
   · exact hn3 a ha a h rfl
   exact h (hsub a (by simp [ha]))
 obtain ⟨F',hM,hF'⟩:=hback w' (G1++G') (p.1,y') (hch.mono (by omega) (by simp only [Rep.size];omega) (by simp +contextual))
   ⟨c1++c2',⟨G1,G',c1,c2',rfl,rfl,Rep.keep h1 keep1,h2'⟩,zcP (hch.range hwb r1 (.inl (by rw [hl1];exact Nat.le_refl _))) (by rw [hl1];exact r2'),hnG,((hw.sub (by simp +contextual)).keep keep1).append hw2',by simp [hb.1,hb2'],hwb'⟩ hs'
 refine ⟨F',hM,fun c hc=>?_⟩
 rcases hF' c hc with h | h
 · exact .inl h
 rcases List.mem_append.1 h with h | h
 · exact .inl (hsub c (by simp [h]))
 exact .inr h
end pair
theorem zmM {t by_ b o:Nat} {G:List Nat} {y y':β} {u:Value} {G':List Nat} {K:World→Prop} (ht:tyI P t=some (Rep.size β,by_,Rep.agg β)) (h:OAt G w b o y)
   (hu:OwnF G' w u y') (hn:G'.Nodup) (hwr:Wr G' w) (hb:b∉G') (k:∀ w',ChgAt b o (Rep.size β) [] w w'→OAt G' w' b o y'→K w'):OPU P (Instr.storeAt t (.pointer (some ⟨b,o,none⟩)) u) w K:=by
 obtain ⟨us,hr,rfl⟩:=hu
 obtain ⟨cs,hr0,ha,hn0,hw0,hb0,c,e,hc⟩:=h
 have hl0:=Rep.len hr0
 have hlu:=Rep.len hr
 have hpos:=Rep.pos (α:=β)
 have hcell:∀ j,j<cs.length→c[o+j]?=cs[j]?:=by
   intro j hj
   have:=ha j cs[j] (by simp [hj])
   simpa [World.cell?,hc,hj] using this
 have hfit:o+Rep.size β≤c.size:=by
   have hj:cs.length-1<cs.length:=by omega
   have:=hcell (cs.length-1) hj
   rw [List.getElem?_eq_getElem hj] at this
   have:=(Array.getElem?_eq_some_iff.1 this).1
   omega
 have hst:=zcQ (P:=P) (e:=e) (cur:=c) ht hr hc hfit
 have hset:=setRow_heap w b c ((c.toList.take o++us++c.toList.drop (o+us.length)).toArray) e _ hc
 refine ⟨_,hst,k _ ⟨(zbT w b _).mono (by simp),fun c1 e1 hc1=>?_⟩ ?_⟩
 · rw [hc] at hc1
   simp only [Option.some.injEq,Obj.cells.injEq,and_true] at hc1
   obtain ⟨rfl,rfl⟩:=hc1
   refine ⟨_,hset,fun j hj=>?_⟩
   simp only [List.getElem?_toArray]
   rcases hj with hj | hj
   · rw [List.append_assoc,List.getElem?_append_left (by simp only [List.length_take,Array.length_toList];omega),List.getElem?_take,if_pos hj,Array.getElem?_toList]
   rw [List.getElem?_append_right (by simp only [List.length_append,List.length_take,Array.length_toList];omega),List.getElem?_drop,Array.getElem?_toList]
   congr 1
   simp only [List.length_append,List.length_take,Array.length_toList];omega
 have hkeep:∀ x∈G',(w.setRow b ((c.toList.take o++us++c.toList.drop (o+us.length)).toArray)).heap[x]?=w.heap[x]?:=fun x hx=>
   (zbT w b _).block x (hwr.lt x hx) (by simp;exact fun e=>hb (e▸hx))
 refine ⟨us,Rep.keep hr hkeep,fun j v hv=>?_,hn,hwr.keep hkeep,hb,_,e,hset⟩
 have hj:j<us.length:=(List.getElem?_eq_some_iff.1 hv).1
 simp only [World.cell?,hset]
 simp only [Option.isSome_none,Bool.false_eq_true,if_false,List.getElem?_toArray]
 rw [List.append_assoc,List.getElem?_append_right (by simp only [List.length_take,Array.length_toList];omega),List.getElem?_append_left (by simp only [List.length_take,Array.length_toList];omega),←hv]
 congr 1
 simp only [List.length_take,Array.length_toList];omega
theorem zhV {t by_ b o:Nat} {H:List Nat→World→α→Prop} {F G:List Nat} {y y':β} {upd:β→α} {u:Value} {G':List Nat} {K:World→Prop} (ht:tyI P t=some (Rep.size β,by_,Rep.agg β)) (h:Lens H F w b o G y upd)
   (hu:Mine G' w u y') (hs:∀ c∈G',c∈G∨c∉F) (k:∀ w',Chg F w w'→(∃ F',H F' w' (upd y')∧∀ c∈F',c∈F∨c∈G')→K w'):OPU P (Instr.storeAt t (.pointer (some ⟨b,o,none⟩)) u) w K:=by
 have hbG':b∉G':=fun hm=>by
   rcases hs b hm with h' | h'
   · obtain ⟨cs,_,_,_,_,hb,_⟩:=h.here;exact hb h'
   exact h' (h.sub b (by simp))
 refine zmM ht h.here hu.own hu.nodup hu.wr hbG' fun w' hch hO=>k w' (hch.chg.mono fun c hc=>h.sub c (by simp at hc;simp [hc])) ?_
 obtain ⟨F',h1,h2⟩:=h.back w' G' y' (hch.mono (Nat.le_refl _) (Nat.le_refl _) (by simp)) hO hs
 exact ⟨F',h1,h2⟩
end
class RepZ (α:Type) [Rep α] where
 zv:α
 zc:List Value
 zr:∀ w,rep [] w zc zv
instance:RepZ Int:=⟨0,[.int .i64 0],fun _=>⟨rfl,rfl,by unfold I64;omega⟩⟩
instance:RepZ Bool:=⟨false,[.bool false],fun _=>⟨rfl,rfl⟩⟩
instance:RepZ ByteArray:=⟨ByteArray.empty,[.string ByteArray.empty],fun _=>⟨rfl,rfl,Nat.zero_le _⟩⟩
instance {α:Type} [Rep α]:RepZ (List α):=⟨[],[.slice none 0 0],fun _=>⟨none,0,[],[],rfl,Nat.le_refl _,Nat.zero_le _,⟨rfl,rfl⟩,.inl ⟨rfl,rfl⟩⟩⟩
instance {α β:Type} [Rep α] [Rep β] [RepZ α] [RepZ β]:RepZ (α×β):=⟨((RepZ.zv:α),(RepZ.zv:β)),RepZ.zc α++RepZ.zc β,fun w=>⟨[],[],_,_,rfl,rfl,RepZ.zr w,RepZ.zr w⟩⟩
def OwnI {α:Type} [Rep α] (lo hi:Nat) (w:World) (v:Value) (x:α):Prop:=∃ F,Mine F w v x∧∀ b∈F,lo≤b∧b<hi
structure ChgI (lo hi:Nat) (w w':World):Prop where
 os:w'.os=w.os
 tape:w'.tape=w.tape
 output:w'.output=w.output
 size:w.heap.size≤w'.heap.size
 block:∀ b,b<w.heap.size→(b<lo∨hi≤b)→w'.heap[b]?=w.heap[b]?
section
variable {w w':World} {α:Type} [Rep α] {lo hi a b:Nat} {v:Value} {x:α}
theorem Chg.toI {F:List Nat} (h:Chg F w w') (hF:∀ b∈F,lo≤b∧b<hi):ChgI lo hi w w':=
 ⟨h.os,h.tape,h.output,h.size,fun i hi' ho=>h.block i hi' fun e=>by have:=hF i e;omega⟩
theorem Ext.toI (h:Ext w w'):ChgI lo hi w w':=⟨h.os,h.tape,h.output,h.size,fun i hi' _=>h.block i hi'⟩
theorem ChgI.refl (w:World):ChgI lo hi w w:=⟨rfl,rfl,rfl,Nat.le_refl _,fun _ _ _=>rfl⟩
theorem ChgI.trans {w'':World} (h:ChgI lo hi w w') (k:ChgI lo hi w' w''):ChgI lo hi w w'':=
 ⟨k.os.trans h.os,k.tape.trans h.tape,k.output.trans h.output,Nat.le_trans h.size k.size,fun i hi' ho=>(k.block i (Nat.lt_of_lt_of_le hi' h.size) ho).trans (h.block i hi' ho)⟩
theorem ChgI.mono {lo' hi':Nat} (h:ChgI lo hi w w') (h1:lo'≤lo) (h2:hi≤hi'):ChgI lo' hi' w w':=
 ⟨h.os,h.tape,h.output,h.size,fun i hi' ho=>h.block i hi' (by omega)⟩
theorem Ext.chgI {c:World} (h:Ext w w') (k:ChgI lo hi w' c) (hl:w.heap.size≤lo):Ext w c:=
 ⟨k.os.trans h.os,k.tape.trans h.tape,k.output.trans h.output,Nat.le_trans h.size k.size,fun i hi'=>(k.block i (Nat.lt_of_lt_of_le hi' h.size) (by omega)).trans (h.block i hi')⟩
theorem Own.toI (h:Own lo w v x):OwnI lo w.heap.size w v x:=by
 obtain ⟨F,hm,hl⟩:=h;exact ⟨F,hm,fun b hb=>⟨hl b hb,hm.lt b hb⟩⟩
theorem OwnI.own (h:OwnI lo hi w v x):Own lo w v x:=by
 obtain ⟨F,hm,hl⟩:=h;exact ⟨F,hm,fun b hb=>(hl b hb).1⟩
theorem OwnI.is (h:OwnI lo hi w v x):Is w v x:=by obtain ⟨F,hm,_⟩:=h;exact hm.is
theorem OwnI.ext (h:OwnI lo hi w v x) (hx:Ext w w'):OwnI lo hi w' v x:=by obtain ⟨F,hm,hl⟩:=h;exact ⟨F,hm.ext hx,hl⟩
theorem OwnI.chg (h:OwnI lo hi w v x) (hc:ChgI a b w w') (hd:hi≤a∨b≤lo):OwnI lo hi w' v x:=by
 obtain ⟨F,hm,hl⟩:=h
 exact ⟨F,hm.keep fun c hcm=>hc.block c (hm.lt c hcm) (by have:=hl c hcm;omega),hl⟩
theorem OwnI.mono {lo' hi':Nat} (h:OwnI lo hi w v x) (h1:lo'≤lo) (h2:hi≤hi'):OwnI lo' hi' w v x:=by
 obtain ⟨F,hm,hl⟩:=h;exact ⟨F,hm,fun b hb=>by have:=hl b hb;omega⟩
def VarI {α:Type} [Rep α] (lo hi:Nat) (w:World) (g:Nat) (x:α):Prop:=∃ F,OAt F w g 0 x∧∀ b∈F,lo≤b∧b<hi
theorem OAt.keep {F:List Nat} {g o:Nat} (h:OAt F w g o x) (hk:∀ c∈g :: F,w'.heap[c]?=w.heap[c]?):OAt F w' g o x:=by
 obtain ⟨cs,hr,ha,hn,hw,hb,c,e,hc⟩:=h
 have hg:=hk g (by simp)
 exact ⟨cs,Rep.keep hr fun b hb=>hk b (by simp [hb]),zaS ha hg,hn,hw.keep fun b hb=>hk b (by simp [hb]),hb,c,e,by rw [hg];exact hc⟩
theorem VarI.lt {g:Nat} (h:VarI lo hi w g x):g<w.heap.size:=by obtain ⟨F,h,_⟩:=h;exact h.lt
theorem OAt.lts {F:List Nat} {g o:Nat} (h:OAt F w g o x):∀ c∈g :: F,c<w.heap.size:=by
 intro c hc
 rcases List.mem_cons.1 hc with rfl | hc
 · exact h.lt
 obtain ⟨cs,hr,_⟩:=h;exact Rep.lt hr c hc
theorem VarI.ext {g:Nat} (h:VarI lo hi w g x) (hx:Ext w w'):VarI lo hi w' g x:=by
 obtain ⟨F,h,hl⟩:=h
 exact ⟨F,h.keep fun c hc=>hx.heap (h.lts c hc),hl⟩
theorem VarI.chg {g:Nat} (h:VarI lo hi w g x) (hc:ChgI a b w w') (hd:hi≤a∨b≤lo) (hg:g<a∨b≤g):VarI lo hi w' g x:=by
 obtain ⟨F,h,hl⟩:=h
 refine ⟨F,h.keep fun c hcm=>hc.block c (h.lts c hcm) ?_,hl⟩
 rcases List.mem_cons.1 hcm with rfl | hcm
 · omega
 have:=hl c hcm;omega
theorem VarI.at {g:Nat} (h:VarI lo hi w g x):At w g 0 x:=by obtain ⟨F,h,_⟩:=h;exact h.at
theorem VarI.own {g:Nat} (h:VarI lo hi w g x):∃ v,OwnI lo hi w v x∧∃ cs F,Rep.rep F w cs x∧w.rangeAt g 0 cs∧v=mkv α cs:=by
 obtain ⟨F,⟨cs,hr,ha,hn,hw,_⟩,hl⟩:=h
 exact ⟨mkv α cs,⟨F,⟨⟨cs,hr,rfl⟩,hn,hw⟩,hl⟩,cs,F,hr,ha,rfl⟩
section
variable {P:Program} {w0:World}
theorem zhW [RepZ α] {e:TypeId} {K:Value→World→Prop} (hz:zbt P e=some (RepZ.zc α))
   (k:∀ w',Ext w w'→VarI w'.heap.size w'.heap.size w' w.heap.size ((RepZ.zv:α))→K (.pointer (some ⟨w.heap.size,0,none⟩)) w'):OP P (Instr.alloc e true (.tuple #[])) w K:=
 zcm hz fun w' hx hB=>k w' hx ⟨[],⟨RepZ.zc α,RepZ.zr w',hB.range,List.nodup_nil,Wr.nil _,by simp,_,_,hB⟩,by simp⟩
theorem zqf {t by_ g:Nat} {K:Value→Prop} (ht:tyI P t=some (Rep.size α,by_,Rep.agg α)) (h:VarI lo hi w0 g x) (hx:Ext w0 w) (k:∀ v,OwnI lo hi w0 v x→K v) :
   RD P (Instr.loadAt t (.pointer (some ⟨g,0,none⟩))) w K:=by
 obtain ⟨v,ho,cs,F,hr,ha,rfl⟩:=h.own
 exact zaF (fun w' hx'=>zdq ht (zaP hr (hx.trans hx')) (za8 ha (hx.trans hx'))) (k _ ho)
theorem zd7 {t by_ g:Nat} {K:Value→Prop} (ht:tyI P t=some (Rep.size α,by_,Rep.agg α)) (h:VarI lo hi w0 g x) (hx:Ext w0 w) (k:∀ v,OwnI lo hi w0 v x→K v) :
   RD P (zbG t (.pointer (some ⟨g,0,none⟩))) w K:=by
 obtain ⟨v,ho,cs,F,hr,ha,rfl⟩:=h.own
 refine zaF (fun w' hx'=>?_) (k _ ho)
 have:=zdq ht (zaP hr (hx.trans hx')) (za8 ha (hx.trans hx'))
 simpa [zbG,asAddr,Instr.loadAt,Instr.sureAddr] using this
theorem zdr {t by_ g:Nat} {x0:α} {lo0 hi0:Nat} {u:Value} {K:World→Prop} (ht:tyI P t=some (Rep.size α,by_,Rep.agg α)) (hv:VarI lo0 hi0 w g x0) (hu:OwnI lo hi w u x) (hg:g<lo∨hi≤g)
   (k:∀ w',ChgI g (g+1) w w'→VarI lo hi w' g x→K w'):OPU P (Instr.storeAt t (.pointer (some ⟨g,0,none⟩)) u) w K:=by
 obtain ⟨F,hO,_⟩:=hv
 obtain ⟨G',hM,hG'⟩:=hu
 have hgG':g∉G':=fun h=>by have:=hG' g h;omega
 exact zmM ht hO hM.own hM.nodup hM.wr hgG' fun w' hch hO'=>k w' (hch.chg.toI (by simp)) ⟨G',hO',hG'⟩
end
theorem ownI_int {x:Int} (h:I64 x):OwnI lo hi w (.int .i64 x) x:=⟨[],⟨⟨_,⟨rfl,rfl,h⟩,rfl⟩,List.nodup_nil,Wr.nil w⟩,by simp⟩
theorem zox {x:ByteArray} (h:x.size≤maxLen):OwnI lo hi w (.string x) x:=⟨[],⟨⟨_,⟨rfl,rfl,h⟩,rfl⟩,List.nodup_nil,Wr.nil w⟩,by simp⟩
end
end Go.Sh
namespace Go.Sh
open Rep (rep)
section
variable {w:World} {b o:Nat}
theorem zaj {α β:Type} [Rep α] [Rep β] {F G:List Nat} {c1 c2:List Value} {x:α} {y:β} (h1:rep F w c1 x) (h2:rep G w c2 y):rep (F++G) w (c1++c2) (x,y):=⟨F,G,c1,c2,rfl,rfl,h1,h2⟩
theorem zda {α:Type} [Rep α] (ha:Rep.agg α=false) {F:List Nat} {v:Value} {x:α} (h:OwnF F w v x):rep F w [v] x:=by
 obtain ⟨cs,hr,rfl⟩:=h
 have hl:=Rep.len hr
 rw [Rep.sz ha] at hl
 obtain ⟨c,rfl⟩:=List.length_eq_one_iff.1 hl
 simpa [mkv,ha] using hr
end
structure DRace where
 g:Int
 a:Int
 b:Int
theorem DRace.ext_iff {x y:DRace}:x=y↔(x.g=y.g∧x.a=y.a∧x.b=y.b):=⟨fun h=>by rw [h];exact ⟨rfl,rfl,rfl⟩,fun h=>by obtain ⟨h0,h1,h2⟩:=h;cases x;cases y;simp only at h0 h1 h2;simp only [h0,h1,h2]⟩
instance:DecidableEq DRace:=fun x y=>decidable_of_iff (x.g=y.g∧x.a=y.a∧x.b=y.b) DRace.ext_iff.symm
instance:Rep DRace:=Rep.via fun x=>(x.g,x.a,x.b)
instance:RepZ DRace:=⟨⟨(RepZ.zv:Int),(RepZ.zv:Int),(RepZ.zv:Int)⟩,RepZ.zc (Int×Int×Int),fun w=>RepZ.zr (α:=Int×Int×Int) w⟩
instance:Flat DRace:=⟨fun h=>Flat.flat (α:=Int×Int×Int) h⟩
structure DState where
 vars:List Int
 owner:List Int
 stacks:List (List Int)
theorem DState.ext_iff {x y:DState}:x=y↔(x.vars=y.vars∧x.owner=y.owner∧x.stacks=y.stacks):=⟨fun h=>by rw [h];exact ⟨rfl,rfl,rfl⟩,fun h=>by obtain ⟨h0,h1,h2⟩:=h;cases x;cases y;simp only at h0 h1 h2;simp only [h0,h1,h2]⟩
instance:DecidableEq DState:=fun x y=>decidable_of_iff (x.vars=y.vars∧x.owner=y.owner∧x.stacks=y.stacks) DState.ext_iff.symm
instance:Rep DState:=Rep.via fun x=>(x.vars,x.owner,x.stacks)
instance:RepZ DState:=⟨⟨(RepZ.zv:List Int),(RepZ.zv:List Int),(RepZ.zv:List (List Int))⟩,RepZ.zc ((List Int)×(List Int)×(List (List Int))),fun w=>RepZ.zr (α:=(List Int)×(List Int)×(List (List Int))) w⟩
section
variable {w:World} {b o:Nat}
theorem zgl {v:Value} {x:DRace}:Is w v x↔v=.agg #[.int .i64 x.g,.int .i64 x.a,.int .i64 x.b]∧I64 x.g∧I64 x.a∧I64 x.b:=by
 constructor
 · rintro ⟨F,cs,⟨F1,F2,c1,c2,rfl,rfl,⟨rfl,rfl,h1⟩,⟨F3,F4,c3,c4,rfl,rfl,⟨rfl,rfl,h2⟩,⟨rfl,rfl,h3⟩⟩⟩,rfl⟩
   exact ⟨rfl,h1,h2,h3⟩
 rintro ⟨rfl,h1,h2,h3⟩
 exact ⟨[],[.int .i64 x.g,.int .i64 x.a,.int .i64 x.b],⟨[],[],[.int .i64 x.g],[.int .i64 x.a,.int .i64 x.b],rfl,rfl,⟨rfl,rfl,h1⟩,[],[],[.int .i64 x.a],[.int .i64 x.b],rfl,rfl,⟨rfl,rfl,h2⟩,⟨rfl,rfl,h3⟩⟩,rfl⟩
theorem zmN {x:DRace} (h1:I64 x.g) (h2:I64 x.a) (h3:I64 x.b):Mine [] w (.agg #[.int .i64 x.g,.int .i64 x.a,.int .i64 x.b]) x:=
 ⟨⟨[.int .i64 x.g,.int .i64 x.a,.int .i64 x.b],⟨[],[],[.int .i64 x.g],[.int .i64 x.a,.int .i64 x.b],rfl,rfl,⟨rfl,rfl,h1⟩,[],[],[.int .i64 x.a],[.int .i64 x.b],rfl,rfl,⟨rfl,rfl,h2⟩,⟨rfl,rfl,h3⟩⟩,rfl⟩,List.nodup_nil,Wr.nil w⟩
end
end Go.Sh
namespace Go.Proofs.YtcnglfeoglgebaaGreat
open Go Go.Sh Go.Proofs
def sm {α:Type} (f:α→Nat) (l:List α):Nat:=(l.map f).sum
theorem zrk {α:Type} (f:α→Nat) {l:List α} {x:α} (h:x∈l):f x≤sm f l:=by
 unfold sm
 induction l with
 | nil=>cases h
 | cons y l ih=>
   rw [List.map_cons,List.sum_cons]
   rcases List.mem_cons.1 h with rfl | h
   · omega
   have:=ih h;omega
def zrl (s:DState) (t:Int):Int:=if h:0≤t∧t.toNat<s.stacks.length then (s.stacks[t.toNat]'h.2).getLastD (-1) else -1
end Go.Proofs.YtcnglfeoglgebaaGreat
namespace Go.Sh
open Rep (rep)
def ziM (P:Program) (t:TypeId) (α:Type) [Rep α] (n:Nat):Prop:=
 ∀ (H:Type) (enc:TypeId×Value→H) (w:World) (spare:Nat→Bool) (held:Bool) (cs:List Value) (y:DataW H×List MemPlace),DataW.trod enc P w 0 spare held n t cs=some y→∃ F x,rep F w cs (x:α)
section
variable {P:Program} {t:TypeId}
theorem ziN {α β:Type} {f:α→Option β}:∀ {l:List α} {r:List β},l.mapM f=some r→l.length=r.length∧∀ (i:Nat) x,l[i]?=some x→∃ y,f x=some y∧r[i]?=some y
 | [],r,h=>by simp at h;subst h;simp
 | a :: l,r,h=>by
   simp only [List.mapM_cons,Option.pure_def,Option.bind_eq_bind,Option.bind_eq_some_iff,Option.some.injEq] at h
   obtain ⟨b,hb,bs,hbs,rfl⟩:=h
   obtain ⟨h1,h2⟩:=ziN hbs
   refine ⟨by simp [h1],fun i x hx=>?_⟩
   cases i with
   | zero=>simp at hx;subst hx;exact ⟨b,hb,by simp⟩
   | succ i=>obtain ⟨y,hy,hr⟩:=h2 i x (by simpa using hx);exact ⟨y,hy,by simpa using hr⟩
theorem zjT {w:World} {a:Addr} {n:Nat} {cs:List Value} (h:w.cells? 0 a n=some cs):cs.length=n∧∀ j v,cs[j]?=some v→w.cell? (a.add j)=some v:=by
 unfold World.cells? at h
 simp only [Nat.zero_le,if_true] at h
 obtain ⟨h1,h2⟩:=ziN h
 simp only [List.length_range] at h1
 refine ⟨h1.symm,fun j v hv=>?_⟩
 have hj:j<cs.length:=(List.getElem?_eq_some_iff.1 hv).1
 obtain ⟨y,hy,hr⟩:=h2 j j (by rw [List.getElem?_range (by omega)])
 rw [hr] at hv
 cases hv
 exact hy
theorem zmO {w:World} {a:Addr} {v:Value} (h:w.cell? a=some v):a.spot=none:=by
 unfold World.cell? at h
 split at h
 · split at h
   · cases h
   rename_i hs;simpa using hs
 cases h
theorem ziO {α:Type} [Rep α] {w:World} {b o:Nat}:∀ (n:Nat),(∀ i,i<n→∃ (cs:List Value) (F:List Nat) (x:α),w.rangeAt b (o+i*Rep.size α) cs∧rep F w cs x) →
   ∃ (F:List Nat) (xs:List Value) (l:List α),l.length=n∧Cells F w xs l∧w.rangeAt b o xs
 | 0,_=>⟨[],[],[],rfl,⟨rfl,rfl⟩,fun j v hv=>by simp at hv⟩
 | n+1,h=>by
   obtain ⟨F,xs,l,hl,hc,hr⟩:=ziO n fun i hi=>h i (by omega)
   obtain ⟨cs,G,x,hra,hx⟩:=h n (by omega)
   refine ⟨F++G,xs++cs,l++[x],by simp [hl],Cells.append hc (Cells.single hx),?_⟩
   intro j v hv
   have hlen:=Cells.len hc
   rw [hl] at hlen
   rcases Nat.lt_or_ge j xs.length with hj | hj
   · rw [List.getElem?_append_left hj] at hv;exact hr j v hv
   rw [List.getElem?_append_right hj] at hv
   have:=hra (j-xs.length) v hv
   rwa [show o+n*Rep.size α+(j-xs.length)=o+j by omega] at this
theorem zjU {e:TypeId} {α:Type} [Rep α] {n:Nat} (ht:P.underlying t=some (.slice e)) (hc:P.cellsOf e=Rep.size α) (he:ziM P e α n):ziM P t (List α) (n+1):=by
 intro H enc w spare held cs y h
 rcases DataW.trod_slice ht h with ⟨rfl,_⟩ | ⟨a,len,cap,elems,rest,m,hm,rfl,_,_,h1,h2,h3,h4,_⟩
 · exact ⟨[],[],none,0,[],[],rfl,Nat.le_refl _,Nat.zero_le _,⟨rfl,rfl⟩,.inl ⟨rfl,rfl⟩⟩
 obtain rfl:m=n:=by omega
 by_cases h0:len=0
 · subst h0
   exact ⟨[],[],some a,cap,[],[],rfl,Nat.zero_le _,h2,⟨rfl,rfl⟩,.inl ⟨rfl,rfl⟩⟩
 have key:∀ i,i<len→∃ (cs:List Value) (F:List Nat) (x:α),cs.length=Rep.size α∧(∀ j v,cs[j]?=some v→w.cell? ((a.add (i*P.cellsOf e)).add j)=some v)∧rep F w cs x:=by
   intro i hi
   have hy:=h4 i hi
   rw [List.getElem?_eq_getElem (by omega)] at hy
   obtain ⟨cs,hcs,hy⟩:=Option.bind_eq_some_iff.1 hy
   obtain ⟨F,x,hx⟩:=he H enc w spare held cs _ hy
   obtain ⟨hl,hcell⟩:=zjT hcs
   exact ⟨cs,F,x,by rw [hl,hc],hcell,hx⟩
 have hsp:a.spot=none:=by
   obtain ⟨cs,F,x,hl,hcell,_⟩:=key 0 (by omega)
   have hp:=Rep.pos (α:=α)
   have:=hcell 0 (cs[0]'(by omega)) (by rw [List.getElem?_eq_getElem])
   simpa [Addr.add] using zmO this
 obtain ⟨b,o,sp⟩:=a
 simp only at hsp
 subst hsp
 obtain ⟨F,xs,l,hl,hC,hR⟩:=ziO (α:=α) (w:=w) (b:=b) (o:=o) len fun i hi=>by
   obtain ⟨cs,F,x,_,hcell,hx⟩:=key i hi
   refine ⟨cs,F,x,fun j v hv=>?_,hx⟩
   have:=hcell j v hv
   rw [hc] at this
   rwa [Addr.add_mid,Addr.add_mid] at this
 have hb:b<w.heap.size:=zd5 hR (by rw [Cells.len hC,hl];exact Nat.mul_pos (by omega) Rep.pos)
 subst hl
 exact ⟨b :: F,l,some ⟨b,o,none⟩,cap,F,xs,rfl,h1,h2,hC,.inr ⟨b,o,rfl,rfl,hR,hb⟩⟩
theorem zlM {α:Type} [Rep α]:ziM P t α 0:=by intro H enc w spare held cs y h;simp [DataW.trod] at h
theorem zgm {e:TypeId} {α:Type} [Rep α] (ht:P.underlying t=some (.slice e)) (hc:P.cellsOf e=Rep.size α) (he:∀ n,ziM P e α n):∀ n,ziM P t (List α) n
 | 0=>zlM
 | n+1=>zjU ht hc (he n)
theorem zjV {e:TypeId} {α:Type} [Rep α] {H:Type} {enc:TypeId×Value→H} {w W:World} {r:Reach} {b0:Nat} {spare:Nat→Bool} {held:Bool} {v:Value} {d:DataW H} {p:List MemPlace} (ht:P.underlying t=some (.slice e)) (hr:∀ n,ziM P t (List α) n) (hv:Value.okWide P W r b0 t v)
   (h:DataW.Trod enc P w 0 spare held t v d p):∃ x:List α,Is w v x:=by
 obtain ⟨a,len,cap,rfl⟩:=WideShapes.okWide_slice ht hv
 obtain ⟨n,hn⟩:=h
 obtain ⟨F,x,hx⟩:=hr n H enc w spare held _ _ hn
 exact ⟨x,F,_,hx,rfl⟩
end
end Go.Sh
