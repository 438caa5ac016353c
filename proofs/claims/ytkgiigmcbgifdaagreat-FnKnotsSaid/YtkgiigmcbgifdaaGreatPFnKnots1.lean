/-
  Parts of the proof, put together by program.
-/
import Derived.Calls
import Derived.Orders
import Derived.Below
import Derived.Laws.Sem
import Derived.Deep.MidRow
import Derived.Laws.OwnMore
import Derived.Laws.Slices
import Derived.Laws.Entries
import Derived.Laws.Strings
import Derived.Laws.BitsLemmas
import Derived.Laws.Cover3
import Derived.IntWalk
import Derived.Laws.StructEq
import GoSem.ClaimChange
import Derived.ChangeArms
import Derived.WideShapes
import Derived.Test.YtkgiigmcbgifdaaGreatProg
import Derived.KernelRfl
import Derived.Laws.Tables
import Derived.Laws.BytesArg
import Derived.Laws.Strings2
import Derived.Shelf.SlSortCmp.InsertionK
import Derived.Shelf.SlSortCmp.NoneTotal
import Derived.Ground.SlsfProg
import Derived.Test.YtkgiigmcbgifdaaGreatRows
import Derived.ProofKit
import Derived.JoinedOf
import Derived.OpenShut
import Derived.ShutString
import Derived.ChangeOld
set_option linter.unusedVariables false
set_option linter.unusedSimpArgs false
set_option linter.unusedSectionVars false
set_option linter.defProp false
open Go renaming Value→vL,World→wD,Program→pG
theorem oo {p:Prop} (h:p:=by omega):p:=h
theorem qd {p:Prop} (h:p:=by decide):p:=h
theorem sS {p:Prop} (h:p:=by simp):p:=h
theorem kK {p:Prop} (h:p:=by kernel_rfl):p:=h
theorem aA {p:Prop} (h:p:=by assumption):p:=h
theorem sc {p:Prop} (h:p:=by simp +contextual):p:=h
theorem so {p:Prop} (h:p:=by simp;omega):p:=h
def qaa:=@List.mem_cons
def qab:=@if_neg
def qac:=@List.getElem_mem
def qad:=@List.not_mem_nil
def qae:=@List.mem_append
def qaf:=@List.take_of_length_le
def qag:=@List.length_append
def qah:=@if_pos
def qai:=@Decidable.not_not
def qaj:=@List.length_take
def qak:=@List.length_cons
def qal:=@Int.toNat_natCast
def qam:=@decide_false
def qan:=@List.eq_nil_of_length_eq_zero
def qao:=@Option.some.injEq
def qap:=@Nat.lt_of_lt_of_le
def qaq:=@or_false
def qar:=@Bool.and_eq_true
def qas:=@List.nodup_append
def qat:=@Nat.le_trans
def qau:=@decide_eq_true_eq
def qav:=@List.nodup_nil
def qaw:=@List.append_assoc
def qax:=@congrArg
def qay:=@Nat.lt_or_ge
def qaz:=@Nat.le_refl
def qaA:=@List.drop_eq_getElem_cons
def qaB:=@List.take_length
def qaC:=@List.length_nil
def qaD:=@List.length_map
def qaE:=@Nat.pow_le_pow_right
def qaF:=@List.append_nil
def qaG:=@List.mem_range
def qaH:=@Array.length_toList
def qaI:=@Int.toNat_of_nonneg
def qaJ:=@List.mem_flatMap
def qaK:=@List.mem_singleton
def qaL:=@Nat.lt_of_le_of_lt
def qaM:=@List.all_eq_true
def qaN:=@Nat.testBit_two_pow
def qaO:=@List.length_pos_iff
def qaP:=@List.nodup_cons
def qaQ:=@Option.map_eq_some_iff
def qaR:=@Bool.or_eq_true
def qaS:=@List.mem_append_left
def qaT:=@Nat.pow_lt_pow_right
def qaU:=@List.ext_getElem
def qaV:=@Nat.testBit_or
def qaW:=@List.length_set
def qaX:=@Nat.testBit_and
def qaY:=@Bool.not_eq_true'
def qaZ:=@List.pairwise_cons
def qa0:=@Option.some.inj
def qa1:=@Classical.byContradiction
def qa2:=@Nat.or_lt_two_pow
def qa3:=@List.mem_map
def qa4:=@Bool.false_eq_true
def qa5:=@List.map_congr_left
def qa6:=@decide_true
def qa7:=@Nat.zero_add
def qa8:=@List.length_drop
def qa9:=@Nat.lt_or_eq_of_le
def qba:=@List.mem_append_right
def qbb:=@List.set_append_right
def qbc:=@List.flatMap_append
def qbd:=@List.headD_cons
def qbe:=@List.length_range
def qbf:=@Decidable.byContradiction
def qbg:=@Nat.mul_le_mul_right
def qbh:=@List.mem_of_mem_take
def qbi:=@Nat.eq_of_testBit_eq
def qbj:=@Option.isSome_iff_exists
def qbk:=@List.cons.injEq
def qbl:=@List.length_replicate
def qbm:=@Nat.and_le_left
def qbn:=@Bool.false_and
def qbo:=@Int.ofNat_inj
def qbp:=@Nat.add_mul
def qbq:=@List.filter_append
def qbr:=@List.length_eq_one_iff
def qbs:=@Nat.testBit_lt_two_pow
def qbt:=@List.foldl_cons
def qbu:=@Bool.and_false
def qbv:=@Nat.min_eq_left
def qbw:=@Nat.lt_succ_iff
def qbx:=@List.map_append
def qby:=@Nat.shiftRight_eq_div_pow
def qbz:=@List.cons_append
def qbA:=@Nat.mod_eq_of_lt
def qbB:=@List.drop_length
def qbC:=@Nat.le_of_ble_eq_true
def qbD:=@List.flatMap_cons
def qbE:=@List.nil_append
def qbF:=@List.set_eq_take_append_cons_drop
def qbG:=@Nat.eq_zero_or_pos
def qbH:=@List.pairwise_map
def qbI:=@List.map_cons
def qbJ:=@List.eq_nil_iff_forall_not_mem
def qbK:=@List.length_filter_le
def qbL:=@Bool.and_eq_false_iff
def qbM:=@Nat.add_sub_cancel
def qbN:=@Nat.one_mul
def qbO:=@List.mem_of_mem_drop
def qbP:=@Nat.zero_le
def qbQ:=@List.append_eq_nil_iff
def qbR:=@List.pairwise_flatMap
def qbS:=@List.mem_cons_of_mem
def qbT:=@List.Sublist.append_left
def qbU:=@List.range_succ
def qbV:=@Int.lt_trichotomy
def qbW:=@List.mem_filter
def qbX:=@Bool.true_and
def qbY:=@List.getElem_of_mem
def qbZ:=@List.getElem_map
def qb0:=@List.drop_append_of_le_length
def qb1:=@List.take_zero
def qb2:=@List.sublist_cons_self
def qb3:=@List.getElem_cons_zero
def qb4:=@List.length_pos_of_mem
def qb5:=@List.drop_eq_nil_of_le
def qb6:=@List.getElem_replicate
def qb7:=@List.mem_filterMap
def qb8:=@Bool.not_eq_false'
def qb9:=@Nat.eq_of_beq_eq_true
def qca:=@List.map_nil
def qcb:=@Nat.mul_one
def qcc:=@List.length_singleton
def qcd:=@Prod.mk.injEq
def qce:=@Int.tmod_eq_emod_of_nonneg
def qcf:=@List.pairwise_append
def qcg:=@List.replicate_succ'
def qch:=@List.pairwise_iff_getElem
def qci:=@Bool.not_eq_true
def qcj:=@Nat.zero_testBit
def qck:=@Nat.div_eq_of_lt
def qcl:=@List.getElem_set
def qcm:=@List.take_succ_cons
def qcn:=@Array.ext'
def qco:=@Nat.add_zero
def qcp:=@List.map_set
def qcq:=@List.append_of_mem
def qcr:=@Nat.add_assoc
def qcs:=@Option.isSome_none
def qct:=@Nat.one_le_two_pow
def qcu:=@Nat.add_sub_cancel_left
def qcv:=@List.pairwise_mergeSort
def qcw:=@List.pairwise_lt_range
def qcx:=@List.drop_of_length_le
def qcy:=@Nat.lt_trichotomy
def qcz:=@List.take_sublist
def qcA:=@List.foldl_append
def qcB:=@List.getElem_take
def qcC:=@List.take_append_drop
def qcD:=@List.sizeOf_lt_of_mem
def qcE:=@Nat.sub_self
def qcF:=@List.getElem_set_self
def qcG:=@List.length_take_le'
def qcH:=@Option.map_some
def qcI:=@List.mergeSort_perm
def qcJ:=@Nat.mod_two_eq_zero_or_one
def qcK:=@Int.fdiv_eq_ediv_of_nonneg
def qcL:=@Nat.and_one_is_mod
def qcM:=@List.mem_replicate
def qcN:=@List.mapM_cons
def qcO:=@Array.mapM_eq_mapM_toList
def qcP:=@Nat.lt_pow_two_of_testBit
def qcQ:=@Int.mul_nonneg
def qcR:=@Int.mul_le_mul
def qcS:=@List.ne_nil_of_length_pos
def qcT:=@List.elem_eq_true_of_mem
def qcU:=@List.mem_of_elem_eq_true
def qcV:=@Option.mem_toList
def qcW:=@Array.size_setIfInBounds
def qcX:=@List.eq_of_mem_replicate
def qcY:=@List.set_eq_of_length_le
def qcZ:=@Option.bind_eq_some_iff
def qc0:=@List.sum_cons
def qc1:=@Int.eq_ofNat_of_zero_le
def qc2:=@Option.bind_some
def qc3:=@List.nodup_range
def qc4:=@Array.size_eq_zero_iff
def qc5:=@List.getElem_cons_succ
def qc6:=@List.filter_eq_nil_iff
def qc7:=@List.Pairwise.sublist
def qc8:=@Nat.ble_eq_true_of_le
def qc9:=@Int.lt_or_le
def qda:=@List.set_getElem_self
def qdb:=@Int.ofNat_lt
def qdc:=@List.pairwise_and_iff
def qdd:=@Int.le_refl
def qde:=@Bool.false_or
def qdf:=@Bool.and_self
def qdg:=@Nat.and_comm
def qdh:=@Nat.pow_succ
namespace Go.Sh
open Go.RowKit (Below)
variable {i:Nat}
abbrev Env:=Nat->vL
abbrev Ext (w w':wD):Prop:=Below w.heap.size w w'
def Ext.refl (w:wD):Ext w w:=Below.refl _ _
def xrf:=@Ext.refl
def z0 (n:Nat):0<=n:=qbP n
def lr (n:Nat):n<=n:=qaz n
def tk {α:Type _} {l:List α} (h:i<l.length):l.take (i+1)=l.take i++[l[i]]:=List.take_succ_eq_append_getElem h
def Ext.trans {a b c:wD} (h:Ext a b) (k:Ext b c):Ext a c:=Below.trans h (Below.mono k h.size)
def Ext.t {a b c:wD} (h:Ext a b) (k:Ext b c):Ext a c:=Ext.trans h k
def ev (s:Env):Operand->vL
 | .tmp t=>s t
 | .const v=>v
 | .global g=>.pointer (some ⟨g,0,none⟩)
 | .func f=>.func (.func f) #[] #[]
def upd (s:Env) (d:Nat) (v:vL):Env:=λt=>bif Nat.beq t d then v else s t
def put (s:Env) (d:Option Nat) (v:vL):Env:=match d with | some d=>upd s d v | none=>s
def nth {α:Type}:List α->Nat->Option α
 | [],_=>none
 | x :: _,0=>some x
 | _ :: l,n+1=>nth l n
def zD5 (l:List vL) (t:Nat):vL:=match nth l t with | some v=>v | none=>undef
def zbA (m t:Nat):Bool:=Nat.beq (Nat.land 1 (Nat.shiftRight m t)) 1
def mix (m:Nat) (s u:Env):Env:=λt=>bif zbA m t then u t else s t
def BR (v:vL) (kt kf:Prop):Prop:=match v with | .bool true=>kt | .bool false=>kf | _=>False
def GBR (v:vL) (kt kf ks:Prop):Prop:=match v with | .bool true=>kt | .bool false=>kf | .tuple a=>(bif Nat.beq a.size 0 then ks else False) | _=>False
inductive RD (P:pG) (m:Sem vL) (w:wD) (K:vL->Prop):Prop
 | mk (v:vL) (h:∀ w',Ext w w'->m.run P w'=.ok v w') (k:K v):RD P m w K
structure ExtX (X:Nat->Prop) (w w':wD):Prop where
 os:w'.os=w.os
 tape:w'.tape=w.tape
 output:w'.output=w.output
 size:w.heap.size<=w'.heap.size
 block:∀ b,b<w.heap.size->¬X b->w'.heap[b]?=w.heap[b]?
structure Xt where
 l:List Nat
 X:Option (Nat->Prop)
def Xt.rel (x:Xt) (w w':wD):Prop:=match x.X with | none=>Ext w w' | some X=>ExtX X w w'
inductive RDX (P:pG) (X:Nat->Prop) (m:Sem vL) (w:wD) (K:vL->Prop):Prop
 | mk (v:vL) (h:∀ w',ExtX X w w'->m.run P w'=.ok v w') (k:K v):RDX P X m w K
inductive OP (P:pG) (m:Sem vL) (w:wD) (K:vL->wD->Prop):Prop
 | mk (v:vL) (w':wD) (h:m.run P w=.ok v w') (k:K v w'):OP P m w K
inductive OPU (P:pG) (m:Sem Unit) (w:wD) (K:wD->Prop):Prop
 | mk (w':wD) (h:m.run P w=.ok () w') (k:K w'):OPU P m w K
inductive CALL (P:pG) (f:FuncId) (args:List vL) (w:wD) (K:vL->wD->Prop):Prop
 | mk (h:Calls P f args.toArray w λe w'=>∃ v,e=.returned v/\K v w'):CALL P f args w K
inductive OPN (P:pG) (m:Sem Next) (w:wD) (K:vL->wD->Prop):Prop
 | value (v:vL) (w':wD) (h:m.run P w=.ok (.value v) w') (k:K v w'):OPN P m w K
 | skip (w':wD) (h:m.run P w=.ok .skip w') (k:K undef w'):OPN P m w K
 | enter (f:FuncId) (args:Array vL) (w':wD) (h:m.run P w=.ok (.enter f args) w') (k:Calls P f args w' λe w''=>∃ v,e=.returned v/\K v w''):OPN P m w K
 | row (r:String) (args:Array vL) (w':wD) (h:m.run P w=.ok (.row r args) w') (k:Go.Rows P r args w' K):OPN P m w K
def zxw:vL->Bool
 | .pointer (some _)=>true
 | .iface _ _=>true
 | .func (.func _) _ _=>true
 | _=>false
inductive NIL (v:vL) (k:Prop):Prop
 | mk (h:zxw v=true) (hk:k):NIL v k
inductive LOOPI (L:List Nat) (init:List vL) (w:wD) (body:Env->wD->(List vL->wD->Prop)->Prop):Prop
 | mk (I:Nat->List vL->wD->Prop) (m:Nat) (h0:I m init w)
     (hr:∀ m u w',I m (L.map u) w'->body u w' (λus w''=>∃ m',m'<m/\I m' us w'')):LOOPI L init w body
inductive JOIN (L:List Nat) (body:(List vL->wD->Prop)->Prop) (rest:Env->wD->Prop):Prop
 | mk (J:List vL->wD->Prop) (hb:body J) (hr:∀ u w',J (L.map u) w'->rest u w'):JOIN L body rest
def isC:Operand->Operand
 | .const _=>.const undef
 | _=>.tmp 0
def bin (op:BinOp) (t:TypeId) (x y:Operand) (a b:vL):Sem vL:=do eqGuard op t x y a b;binOp op t a b
def zlM (f:vL) (args:List vL):Sem Next:=do let d <-Deferred.ofValue f args.toArray;invoke d.target d.args
def zFT (r:vL) (m:String) (args:List vL):Sem Next:=invoke (.fn (.method m) #[]) (#[r]++args.toArray)
def prs (s:Operand->vL):List (Nat×Operand)->List (Nat×vL)
 | []=>[]
 | (i,x) :: r=>(i,s x) :: prs s r
structure Cfg where
 ext:List Nat
 joins:List (Nat×Nat×List Nat)
 loops:List (Nat×Nat×List Nat)
 draws:List (Nat×List Nat×Nat)
 pars:List (Nat×Nat×Nat):=[]
 xs:List Nat:=[]
 gpars:List (Nat×Nat):=[]
def find {α:Type}:List (Nat×α)->Nat->Option α
 | [],_=>none
 | (k,a) :: r,n=>bif Nat.beq k n then some a else find r n
def zd9 (o:Oper) (ρ:Operand->vL):Option (Sem vL):=
 match o.op with
 | .build t ps=>some (Instr.build t (prs ρ ps.toList).toArray)
 | .load t a=>some (Instr.loadAt t (ρ a))
 | .binOp op t x y _=>some (bin op t (isC x) (isC y) (ρ x) (ρ y))
 | .unOp op _ x=>some (Op.unary op (ρ x))
 | .convert a b x=>some (convert a b (ρ x))
 | .makeInterface t x=>some (Instr.makeInterface t (ρ x))
 | .makeFunc fn first captured=>some (Instr.makeFunc fn (first.toList.map ρ).toArray (captured.toList.map ρ).toArray)
 | .slice t x lo hi mx=>some (Instr.sliceAt t (ρ x) (lo.map ρ) (hi.map ρ) (mx.map ρ))
 | .fieldAddr t x f=>some (Instr.fieldAt t (ρ x) f)
 | .field t x f=>some (Instr.field t (ρ x) f)
 | .indexAddr t x i=>some (Instr.indexAt t (ρ x) (ρ i))
 | .index t x i=>some (Instr.index t (ρ x) (ρ i))
 | .lookup t m k ok=>some (Instr.lookup t (ρ m) (ρ k) ok)
 | .extract t i=>some (Instr.extract (ρ t) i)
 | .typeAssert x t u ok=>some (Instr.typeAssert (ρ x) t u ok)
 | .call { callee:=.builtin .len,args,argTypes }=>some (Builtin.len_ argTypes o.type (args.toList.map ρ).toArray)
 | .call { callee:=.builtin .cap,args,argTypes }=>some (Builtin.cap_ argTypes o.type (args.toList.map ρ).toArray)
 | .call { callee:=.builtin .min,args,argTypes }=>some (Builtin.min_ argTypes o.type (args.toList.map ρ).toArray)
 | .call { callee:=.builtin .max,args,argTypes }=>some (Builtin.max_ argTypes o.type (args.toList.map ρ).toArray)
 | _=>none
def opK (P:pG) (ext:Xt) (o:Oper) (ρ:Operand->vL) (w:wD) (K:vL->wD->Prop):Prop:=
 match o.op with
 | .move x=>K (ρ x) w
 | .assign x=>K (ρ x) w
 | .pick c a b=>BR (ρ c) (K (ρ a) w) (K (ρ b) w)
 | .nilCheck x=>NIL (ρ x) (K (ρ x) w)
 | .alloc e=>OP P (Instr.alloc e true (.tuple #[])) w K
 | .box e x=>OP P (Instr.box e (ρ x)) w K
 | .buildSlice t n ps=>OP P (Instr.buildSlice t n (prs ρ ps.toList).toArray) w K
 | .store t a x=>OPU P (Instr.storeAt t (ρ a) (ρ x)) w (K undef)
 | .makeMap t r=>OP P (Instr.makeMap t (r.map ρ)) w K
 | .makeSlice t l c=>OP P (Instr.makeSlice t (ρ l) (ρ c)) w K
 | .mapUpdate t m k x=>OPU P (Instr.mapUpdate t (ρ m) (ρ k) (ρ x)) w (K undef)
 | .insert t m k x=>OPU P (Instr.mapUpdate t (ρ m) (ρ k) (ρ x)) w (K undef)
 | .mapEntry t m k=>OP P (Instr.mapEntry t (ρ m) (ρ k)) w K
 | .entryStore t m k x=>OPU P (Instr.entryStore t (ρ m) (ρ k) (ρ x)) w (K undef)
 | .range t x=>OP P (Instr.range t (ρ x)) w K
 | .next it b=>OP P (Instr.next (ρ it) b o.type) w K
 | .entry it=>OP P (Instr.entry (ρ it)) w K
 | .call { callee:=.value (.func f),args,.. }=>bif ext.l.elem f then OPN P (callFunc f (args.toList.map ρ).toArray) w K else CALL P f (args.toList.map ρ) w K
 | .call { callee:=.value x,args,.. }=>OPN P (zlM (ρ x) (args.toList.map ρ)) w K
 | .call { callee:=.invoke r m,args,.. }=>OPN P (zFT (ρ r) m (args.toList.map ρ)) w K
 | .call { callee:=.builtin .append,args,argTypes }=>OP P (Builtin.append_ argTypes o.type (args.toList.map ρ).toArray) w K
 | .call { callee:=.builtin .copy,args,argTypes }=>OP P (Builtin.copy_ argTypes o.type (args.toList.map ρ).toArray) w K
 | .call { callee:=.builtin .delete,args,argTypes }=>OP P (Builtin.delete_ argTypes o.type (args.toList.map ρ).toArray) w K
 | .call { callee:=.builtin .clear,args,argTypes }=>OP P (Builtin.clear_ argTypes o.type (args.toList.map ρ).toArray) w K
 | _=>match zd9 o ρ with
   | some m=>(match ext.X with | none=>RD P m w (λv=>K v w) | some X=>RDX P X m w (λv=>K v w))
   | none=>False
def opF (P:pG) (ext:Xt) (o:Oper) (flag:Bool) (s:Env) (w:wD) (K:Env->wD->Prop):Prop:=
 opK P ext o (ev s) w (λv w'=>bif flag then (match ext.X with | none=>Ext w w' | some X=>ExtX X w w')/\K (put s o.dst v) w' else K (put s o.dst v) w')
def zgl (P:pG) (ext:Xt) (ol:List Oper) (fl:Nat) (i:Nat) (s:Env) (w:wD) (K:Env->wD->Prop):Prop:=
 match nth ol i with
 | none=>False
 | some o=>
   match o.guard with
   | none=>opF P ext o (zbA fl i) s w K
   | some (j,want)=>
     match (nth ol j).bind (·.dst) with
     | none=>False
     | some d=>match (nth ol j).bind (·.guard) with
       | none=>BR (s d)
         (bif want then opF P ext o (zbA fl i) (upd s d (.bool true)) w K else K (put (upd s d (.bool true)) o.dst undef) w)
         (bif want then K (put (upd s d (.bool false)) o.dst undef) w else opF P ext o (zbA fl i) (upd s d (.bool false)) w K)
       | some _=>GBR (s d)
         (bif want then opF P ext o (zbA fl i) (upd s d (.bool true)) w K else K (put (upd s d (.bool true)) o.dst undef) w)
         (bif want then K (put (upd s d (.bool false)) o.dst undef) w else opF P ext o (zbA fl i) (upd s d (.bool false)) w K)
         (K (put (upd s d undef) o.dst undef) w)
def zfm (P:pG) (ext:Xt) (ol:List Oper) (fl:Nat) (K:Env->wD->Prop):List Nat->Env->wD->Prop
 | [],s,w=>K s w
 | i :: r,s,w=>zgl P ext ol fl i s w (zfm P ext ol fl K r)
def zo4 (l:List Nat) (lo hi:Nat) (T:Nat->Nat×Nat):Prop:=(∀ i∈l,lo<=(T i).1/\(T i).1<=(T i).2/\(T i).2<=hi)/\∀ i∈l,∀ j∈l,i≠j->(T i).2<=(T j).1\/(T j).2<=(T i).1
def znB (T:Nat->Nat×Nat) (d:Nat) (x:Nat×Nat):Nat->Nat×Nat:=λt=>bif Nat.beq t d then x else T t
def zsO {α:Type} (l:List (List α)) (i:Nat):List α:=match nth l i with | some x=>x | none=>[]
abbrev ParQ:=Nat->Env->(Nat->Nat×Nat)->wD->Prop
inductive PAR (w:wD) (deps:List (List (Nat×Nat))) (steps fin:ParQ->Prop):Prop
 | mk (Q:ParQ) (st:∀ i u u' T T' w1 w2,Ext w w1->Ext w1 w2->(∀ p∈zsO deps i,u' p.2=u p.2/\T' p.1=T p.1)->Q i u T w1->Q i u' T' w2) (h1:steps Q) (h2:fin Q):PAR w deps steps fin
def znC (ol:List Oper) (j:Nat):Nat:=match (nth ol j).bind (·.dst) with | some d=>d | none=>0
def onL:List Edge->List Nat
 | []=>[]
 | e :: r=>bif Region.binds .any e then e.on :: onL r else onL r
def onD (ol:List Oper):List Edge->List (Nat×Nat)
 | []=>[]
 | e :: r=>bif Region.binds .any e then (e.on,znC ol e.on) :: onD ol r else onD ol r
def zis (ol:List Oper):Nat->List Oper->List (List (Nat×Nat))
 | _,[]=>[]
 | i,o :: r=>((i,znC ol i) :: onD ol o.after.toList) :: zis ol (i+1) r
def zi8 (Q:ParQ) (u:Env) (T:Nat->Nat×Nat) (w:wD):List Edge->Prop
 | []=>True
 | e :: r=>bif Region.binds .any e then Q e.on u T w/\zi8 Q u T w r else zi8 Q u T w r
def zgH (P:pG) (ext:Xt) (ol:List Oper) (m:Nat) (s:Env) (w:wD) (Q:ParQ):Nat->List Oper->Prop
 | _,[]=>True
 | i,o :: r=>(∀ (u:Env) (T:Nat->Nat×Nat) (w1:wD),Ext w w1->zo4 (onL o.after.toList) w.heap.size w1.heap.size T->zi8 Q u T w1 o.after.toList ->
     opK P ext o (ev (mix m s u)) w1 (λv w2=>Ext w1 w2/\Q i (upd u (znC ol i) v) (znB T i (w1.heap.size,w2.heap.size)) w2))/\zgH P ext ol m s w Q (i+1) r
def zk0 (Q:ParQ) (u:Env) (T:Nat->Nat×Nat) (w:wD):Nat->Nat->Prop
 | _,0=>True
 | i,n+1=>Q i u T w/\zk0 Q u T w (i+1) n
def zGY (P:pG) (ext:Xt) (ol:List Oper) (m p:Nat) (s:Env) (w:wD) (K:Env->wD->Prop):Prop:=
 PAR w (zis ol 0 (ol.take p)) (λQ=>zgH P ext ol m s w Q 0 (ol.take p))
   (λQ=>∀ (u:Env) (T:Nat->Nat×Nat) (w1:wD),Ext w w1->zo4 (List.range p) w.heap.size w1.heap.size T->zk0 Q u T w1 0 p->zfm P ext ol 0 K ((List.range ol.length).drop p) (mix m s u) w1)
inductive GPAR (w:wD) (deps:List (List (Nat×Nat))) (steps:(wD->Prop)->(Nat->wD->wD->Prop)->ParQ->Prop) (fin:(wD->Prop)->ParQ->Prop):Prop
 | mk (B:wD->Prop) (R:Nat->wD->wD->Prop) (Q:ParQ) (hb:B w) (bs:∀ j w1 w2,B w1->R j w1 w2->B w2) (sz:∀ j w1 w2,R j w1 w2->w1.heap.size<=w2.heap.size)
     (st:∀ i j u u' T T' w1 w2,i≠j->B w1->R j w1 w2->(∀ p∈zsO deps i,u' p.2=u p.2/\T' p.1=T p.1)->Q i u T w1->Q i u' T' w2) (h1:steps B R Q) (h2:fin B Q):GPAR w deps steps fin
def zqE (ol:List Oper) (j:Nat):List (Nat×Nat):=match (nth ol j).bind (·.dst) with | some d=>[(j,d)] | none=>[]
def zD6 (ol:List Oper):List Edge->List (Nat×Nat)
 | []=>[]
 | e :: r=>bif Region.binds .any e then zqE ol e.on++zD6 ol r else zD6 ol r
def zo5 (ol:List Oper):Nat->List Oper->List (List (Nat×Nat))
 | _,[]=>[]
 | i,o :: r=>(zqE ol i++zD6 ol o.after.toList) :: zo5 ol (i+1) r
def zgm (P:pG) (ext:Xt) (m:Nat) (s:Env) (w:wD) (B:wD->Prop) (R:Nat->wD->wD->Prop) (Q:ParQ):Nat->List Oper->Prop
 | _,[]=>True
 | i,o :: r=>(∀ (u:Env) (T:Nat->Nat×Nat) (w1:wD),B w1->w.heap.size<=w1.heap.size->zo4 (onL o.after.toList) w.heap.size w1.heap.size T->zi8 Q u T w1 o.after.toList ->
     opK P ext o (ev (mix m s u)) w1 (λv w2=>R i w1 w2/\Q i (put u o.dst v) (znB T i (w1.heap.size,w2.heap.size)) w2))/\zgm P ext m s w B R Q (i+1) r
def zAT (P:pG) (ext:Xt) (ol:List Oper) (m:Nat) (s:Env) (w:wD) (K:Env->wD->Prop):Prop:=
 GPAR w (zo5 ol 0 ol) (λB R Q=>zgm P ext m s w B R Q 0 ol)
   (λB Q=>∀ (u:Env) (T:Nat->Nat×Nat) (w1:wD),B w1->w.heap.size<=w1.heap.size->zo4 (List.range ol.length) w.heap.size w1.heap.size T->zk0 Q u T w1 0 ol.length->K (mix m s u) w1)
inductive XR (body:(Nat->Prop)->Prop):Prop
 | mk (X:Nat->Prop) (h:body X):XR body
def lit (s:Env) (c:Operand) (b:Bool):Env:=match c with | .tmp t=>upd s t (.bool b) | _=>s
def zaH:Code->Option Nat
 | .region id _ _=>some id
 | .seq a b=>match zaH a with | some i=>some i | none=>zaH b
 | .block _ c=>zaH c
 | .loop c=>zaH c
 | _=>none
def zlh (K:Exit->Env->wD->Prop) (N:Env->wD->Prop):Exit->Env->wD->Prop
 | .normal,s,w=>N s w
 | e,s,w=>K e s w
def zlN (id:Nat) (K:Exit->Env->wD->Prop):Exit->Env->wD->Prop
 | .exit j,s,w=>bif Nat.beq j id then K .normal s w else K (.exit j) s w
 | e,s,w=>K e s w
def World.drew1 (w:wD):wD:={ w with drawn:=w.drawn+1 }
def vc (P:pG) (g:Cfg):Code->Env->wD->(Exit->Env->wD->Prop)->Prop
 | .skip,s,w,K=>K .normal s w
 | .region _ ops false,s,w,K=>zfm P ⟨g.ext,none⟩ ops.toList 0 (K .normal) (List.range ops.size) s w
 | .region id ops true,s,w,K=>
   match find g.gpars id with
   | some m=>zAT P ⟨g.ext,none⟩ ops.toList m s (World.drew1 w) (K .normal)
   | none=>
   match find g.pars id with
   | some (m,p)=>zGY P ⟨g.ext,none⟩ ops.toList m p s (World.drew1 w) (K .normal)
   | none=>
     match find g.draws id with
     | some (l,fl)=>bif g.xs.elem id then XR (λX=>zfm P ⟨g.ext,some X⟩ ops.toList fl (K .normal) l s (World.drew1 w)) else zfm P ⟨g.ext,none⟩ ops.toList fl (K .normal) l s (World.drew1 w)
     | none=>False
 | .seq a b,s,w,K=>
   match (zaH b).bind (find g.joins) with
   | some (m,L)=>JOIN L (λJ=>vc P g a s w (zlh K λs' w'=>J (L.map s') w')) (λu w'=>vc P g b (mix m s u) w' K)
   | none=>vc P g a s w (zlh K λs' w'=>vc P g b s' w' K)
 | .cond c x y,s,w,K=>BR (ev s c) (vc P g x (lit s c true) w K) (vc P g y (lit s c false) w K)
 | .block id c,s,w,K=>vc P g c s w (zlN id K)
 | .loop c,s,w,K=>
   match (zaH c).bind (find g.loops) with
   | some (m,L)=>LOOPI L (L.map s) w λu w' next=>vc P g c (mix m s u) w' (zlh K λs' w''=>next (L.map s') w'')
   | none=>False
 | .exit id,s,w,K=>K (.exit id) s w
 | .ret,s,w,K=>K .ret s w
 | _,_,_,_=>False
def zfA (t:TypeId) (v:vL):Sem vL:=do loadVar t (<-asAddr v)
def zsP (P:pG) (s:Env) (w:wD):List ResultVar->(List vL->Prop)->Prop
 | [],k=>k []
 | .tmp t :: r,k=>zsP P s w r λvs=>k (s t :: vs)
 | .cell a t :: r,k=>RD P (zfA t (s a)) w λv=>zsP P s w r λvs=>k (v :: vs)
def one:List vL->vL
 | [v]=>v
 | vs=>.tuple vs.toArray
def zFU (P:pG) (rs:List ResultVar) (R:vL->wD->Prop):Exit->Env->wD->Prop
 | .normal,s,w=>zsP P s w rs λvs=>R (one vs) w
 | .ret,s,w=>zsP P s w rs λvs=>R (one vs) w
 | _,_,_=>False
def vcF (P:pG) (g:Cfg) (fn:Func) (args:List vL) (w:wD) (R:vL->wD->Prop):Prop:=
 match fn.body with
 | some c=>vc P g c (zD5 args) w (zFU P fn.results.toList R)
 | none=>False
end Go.Sh
namespace Go.Sh
open Go.RowKit (Below)
variable {K:vL->Prop} {P:pG} {v:vL} {w w':wD}
def zbP (a:Act):Env:=λt=>a.tmps.getD t undef
def zt7 (a:Act):ev (zbP a)=a.eval:=by funext x;cases x<;>rfl
theorem zit {α:Type} (l:List α) (i:Nat):nth l i=l[i]?:=by
 induction l generalizing i with
 | nil=>cases i<;>rfl
 | cons x l ih=>cases i<;>simp [nth,ih]
def zdW {α:Type} (l:Array α) (i:Nat):nth l.toList i=l[i]?:=by rw [zit];simp
def zhR (s:Env) (d:Nat) (v:vL):upd s d v d=v:=by simp [upd]
def zcS (s:Env) {d t:Nat} (v:vL) (h:t≠d):upd s d v t=s t:=by
 have:Nat.beq t d=false:=by rw [Bool.eq_false_iff];exact λe=>h (qb9 e)
 simp [upd,this]
def zgI {s:Env} {d:Nat} (h:s d=v):upd s d v=s:=by
 funext t;by_cases e:t=d
 . subst e;rw [zhR,h]
 rw [zcS _ _ e]
def zAU (s:Env) {d e:Nat} (v u:vL) (h:d≠e):upd (upd s d v) e u=upd (upd s e u) d v:=by
 funext t;by_cases h1:t=d
 . subst h1;rw [zhR,zcS _ _ h,zhR]
 by_cases h2:t=e
 . subst h2;rw [zhR,zcS _ _ h1,zhR]
 rw [zcS _ _ h2,zcS _ _ h1,zcS _ _ h1,zcS _ _ h2]
theorem zAV (s:Env) {x y:Option Nat} (v u:vL) (h:∀ d,x=some d->y≠some d):put (put s x v) y u=put (put s y u) x v:=by
 cases x with
 | none=>rfl
 | some d=>
   cases y with
   | none=>rfl
   | some e=>exact zAU s v u (λhe=>h d rfl (he▸rfl))
theorem zxx {s:Env} {x:Option Nat} {t:Nat} (h:∀ d,x=some d->t≠d):put s x v t=s t:=by
 cases x with
 | none=>rfl
 | some d=>exact zcS _ _ (h d rfl)
theorem zxy {a:Act} {d:Option Nat} (h:∀ t,d=some t->t<a.tmps.size):zbP (a.put d v)=put (zbP a) d v:=by
 cases d with
 | none=>rfl
 | some d=>
   funext t;have hd:=h d rfl;by_cases e:t=d
   . subst e;simp [zbP,Act.put,put,zhR,hd]
   simp only [put];rw [zcS _ _ e];simp [zbP,Act.put,Array.getElem?_setIfInBounds_ne (Ne.symm e)]
def zAW (a:Act) (d:Option Nat) (v:vL):(a.put d v).tmps.size=a.tmps.size:=by cases d<;>simp [Act.put]
def zD7 (a:Act) (d:Option Nat) (v:vL):(a.put d v).defers=a.defers:=by cases d<;>rfl
def zgn (m t:Nat):zbA m t=m.testBit t:=by
 unfold zbA Nat.testBit;show Nat.beq (1 &&& (m >>> t)) 1=(1 &&& (m >>> t) != 0);have h:(1 &&& (m >>> t))=(m >>> t)%2:=by rw [qdg];exact qcL _
 rw [h];rcases qcJ (m >>> t) with h2 | h2<;>rw [h2]<;>rfl
def zqF (v:vL) (kt kf:Prop):BR v kt kf↔∃ b,v=.bool b/\(if b then kt else kf):=by
 constructor
 . intro h;cases v with
   | bool b=>exact ⟨b,rfl,by cases b<;>exact h⟩
   | _=>exact h.elim
 rintro ⟨b,rfl,h⟩;cases b<;>exact h
def zCB (ρ:Operand->vL) (ps:Array (Nat×Operand)):(prs ρ ps.toList).toArray=ps.map λ(i,x)=>(i,ρ x):=by
 have:∀ l:List (Nat×Operand),prs ρ l=l.map λ(i,x)=>(i,ρ x):=by
   intro l
   induction l with
   | nil=>rfl
   | cons p l ih=>obtain ⟨i,x⟩:=p;simp [prs,ih]
 rw [this];apply qcn;simp
def zfb (ρ:Operand->vL) (xs:Array Operand):(xs.toList.map ρ).toArray=xs.map ρ:=by
 apply qcn;simp
def zsQ (op:BinOp) (t:TypeId) (x y:Operand) (a b:vL):eqGuard op t (isC x) (isC y) a b=eqGuard op t x y a b:=by
 cases x<;>cases y<;>rfl
def zD8 {m:Sem vL} (h:m.run P w=.ok v w'):(do pure (Next.value (<-m)):Sem Next).run P w=.ok (.value v) w':=by
 simp [h]
def zG8 {m:Sem Unit} (h:m.run P w=.ok () w'):(do m;pure Next.skip:Sem Next).run P w=.ok .skip w':=by
 simp [h]
def zvR {o:Oper} {ρ:Operand->vL} {m:Sem vL} (hm:zd9 o ρ=some m) (h:m.run P w=.ok v w') :
   (execOp ρ o).run P w=.ok (.value v) w':=by
 obtain ⟨_,op,_,_,_,_⟩:=o;cases op<;>simp only [zd9] at hm
 case call c=>
   obtain ⟨callee,_,_⟩:=c;cases callee with
   | value f=>simp at hm
   | invoke r m=>simp at hm
   | builtin b=>
     cases b<;>simp only [qao,reduceCtorEq] at hm<;>subst hm<;>rw [zfb] at h <;>
       simp only [execOp,resolve,invoke,builtin,Sem.run_bind,Sem.run_pure,Result.andThen_ok]<;>simp [h]
 all_goals first
   | (simp at hm;done)
   | (simp only [qao] at hm;subst hm;exact zD8 h)
   | (simp only [qao] at hm;subst hm;simp only [zCB,zfb,zsQ,bin] at h;exact zD8 h)
def zea (P:pG) (f:Nat):Bool:=
 match P.funcs[f]? with
 | some fn=>!(fn.name == "runtime.NumGoroutine")&&fn.body.isSome
 | none=>false
def ExtX.refl (X:Nat->Prop) (w:wD):ExtX X w w:=⟨rfl,rfl,rfl,lr _,λ_ _ _=>rfl⟩
def ExtX.trans {X:Nat->Prop} {a b c:wD} (h:ExtX X a b) (k:ExtX X b c):ExtX X a c:=
 ⟨k.os.trans h.os,k.tape.trans h.tape,k.output.trans h.output,qat h.size k.size,λi hi hX=>(k.block i (qap hi h.size) hX).trans (h.block i hi hX)⟩
def Xt.rel_refl (x:Xt) (w:wD):x.rel w w:=by
 unfold Xt.rel;split
 . exact xrf w
 exact ExtX.refl _ w
def Xt.rel_trans (x:Xt) {a b c:wD} (h:x.rel a b) (k:x.rel b c):x.rel a c:=by
 unfold Xt.rel at *;split at h
 . rename_i hX;simp only [hX] at k ⊢;exact Ext.trans h k
 rename_i X hX;simp only [hX] at k ⊢;exact ExtX.trans h k
theorem RDr_iff {x:Xt} {m:Sem vL}:(match x.X with | none=>RD P m w K | some X=>RDX P X m w K)↔∃ v,(∀ w',x.rel w w'->m.run P w'=.ok v w')/\K v:=by
 unfold Xt.rel;cases x.X with
 | none=>exact ⟨λ⟨v,h,k⟩=>⟨v,h,k⟩,λ⟨v,h,k⟩=>⟨v,h,k⟩⟩
 | some X=>exact ⟨λ⟨v,h,k⟩=>⟨v,h,k⟩,λ⟨v,h,k⟩=>⟨v,h,k⟩⟩
def zt8 (ext:List Nat) (N:Nat) (o:Oper):Bool:=
 match o.op with
 | .call { callee:=.value (.func f),.. }=>ext.elem f || Nat.blt f N
 | _=>true
theorem zds {P:pG} {f:Nat} (h:zea P f=true) (args:Array vL) (w:wD):(callFunc f args).run P w=.ok (.enter f args) w:=by
 unfold zea at h;cases hf:P.funcs[f]? with
 | none=>simp [hf] at h
 | some fn=>
   simp only [hf,qar,qaY] at h;have hn:¬fn.name = "runtime.NumGoroutine" := by simpa using h.1
   have hb:¬fn.body=none:=by intro hb;simp [hb] at h
   unfold callFunc;simp [program,Sem.run,hf,hn,hb]
section
variable {P:pG} {ext:Xt} {N:Nat} (hE:∀ f,f<N->ext.l.elem f=false->zea P f=true)
def znW {o:Oper} {a:Act} {K:vL->wD->Prop} {Q:Exit->Act->wD->Prop} {f:FuncId} {args:Array vL} {w:wD}
   (h:Calls P f args w λe w'=>∃ v,e=.returned v/\K v w') :
   o.upon P a (λa' w'=>∃ v,a'=a.put o.dst v/\K v w') Q (.ok (.enter f args) w):=by
 rw [Oper.upon_enter];exact h.mono λe w' ⟨v,he,hk⟩=>by subst he;exact ⟨v,rfl,hk⟩
theorem zi9 {o:Oper} {a:Act} {K:vL->wD->Prop} {Q:Exit->Act->wD->Prop} {m:Sem Next} {w:wD} (h:OPN P m w K) :
   o.upon P a (λa' w'=>∃ v,a'=a.put o.dst v/\K v w') Q (m.run P w):=by
 cases h with
 | value v w' hr k=>rw [hr];exact ⟨v,rfl,k⟩
 | skip w' hr k=>rw [hr];exact ⟨undef,rfl,k⟩
 | enter f args w' hr k=>rw [hr];exact znW k
 | row r args w' hr k=>rw [hr,Oper.upon_row];exact k.mono λv _ hk=>⟨v,rfl,hk⟩
include hE in
def zxz {o:Oper} {a:Act} {w:wD} {K:vL->wD->Prop} {Q:Exit->Act->wD->Prop} (hc:zt8 ext.l N o=true)
   (h:opK P ext o a.eval w K):o.wp P a w (λa' w'=>∃ v,a'=a.put o.dst v/\K v w') Q:=by
 unfold Oper.wp;obtain ⟨dst,op,I,pos,C,D⟩:=o
 have rd:∀ {m:Sem vL},zd9 ⟨dst,op,I,pos,C,D⟩ a.eval=some m->(match ext.X with | none=>RD P m w (λv=>K v w) | some X=>RDX P X m w (λv=>K v w)) ->
     (Oper.mk dst op I pos C D).upon P a (λa' w'=>∃ v,a'=a.put dst v/\K v w') Q ((execOp a.eval ⟨dst,op,I,pos,C,D⟩).run P w):=by
   intro m hm hr;obtain ⟨v,hv,k⟩:=RDr_iff.1 hr;rw [zvR hm (hv w (ext.rel_refl w))];exact ⟨v,rfl,k⟩
 have O:∀ {m:Sem vL},OP P m w K->(execOp a.eval ⟨dst,op,I,pos,C,D⟩=(do pure (Next.value (<-m)):Sem Next)) ->
     (Oper.mk dst op I pos C D).upon P a (λa' w'=>∃ v,a'=a.put dst v/\K v w') Q ((execOp a.eval ⟨dst,op,I,pos,C,D⟩).run P w):=by
   intro m ho he;obtain ⟨v,w',hr,k⟩:=ho;rw [he,zD8 hr];exact ⟨v,rfl,k⟩
 have g0:∀ {m:Sem Unit},OPU P m w (K undef)->(execOp a.eval ⟨dst,op,I,pos,C,D⟩=(do m;pure Next.skip:Sem Next)) ->
     (Oper.mk dst op I pos C D).upon P a (λa' w'=>∃ v,a'=a.put dst v/\K v w') Q ((execOp a.eval ⟨dst,op,I,pos,C,D⟩).run P w):=by
   intro m ho he;obtain ⟨w',hr,k⟩:=ho;rw [he,zG8 hr];exact ⟨undef,rfl,k⟩
 cases op
 case move x=>exact ⟨_,rfl,h⟩
 case assign x=>exact ⟨_,rfl,h⟩
 case pick c x y=>
   simp only [opK,zqF] at h;obtain ⟨b,hb,h⟩:=h;simp only [execOp,hb,asBool];cases b<;>exact ⟨_,rfl,h⟩
 case nilCheck x=>
   simp only [opK] at h;obtain ⟨hn,k⟩:=h;simp only [execOp];cases hx:a.eval x with
   | pointer p=>cases p with
     | none=>simp [hx,zxw] at hn
     | some p=>exact ⟨_,rfl,hx▸k⟩
   | iface t v=>exact ⟨_,rfl,hx▸k⟩
   | func fn first captured=>cases fn with
     | func f=>exact ⟨_,rfl,hx▸k⟩
     | _=>simp [hx,zxw] at hn
   | _=>simp [hx,zxw] at hn
 case alloc e=>exact O h rfl
 case box e x=>exact O h rfl
 case buildSlice t n ps=>exact O h (by simp only [execOp,zCB])
 case store t x y=>exact g0 h rfl
 case makeMap t r=>exact O h rfl
 case makeSlice t l c=>exact O h rfl
 case mapUpdate t m k x=>exact g0 h rfl
 case insert t m k x=>exact g0 h rfl
 case mapEntry t m k=>exact O h rfl
 case entryStore t m k x=>exact g0 h rfl
 case range t x=>exact O h rfl
 case next it b=>exact O h rfl
 case entry it=>exact O h rfl
 case call c=>
   obtain ⟨callee,args,argTypes⟩:=c;cases callee with
   | value f=>
     cases f with
     | func f=>
       simp only [opK] at h
       have he:(execOp a.eval ⟨dst,.call ⟨.value (.func f),args,argTypes⟩,I,pos,C,D⟩).run P w=(callFunc f (args.map a.eval)).run P w:=by
         simp [execOp,resolve,Act.eval,Deferred.ofValue,invoke]
       rw [he];cases hx:ext.l.elem f with
       | true=>simp only [hx,cond_true,zfb] at h;exact zi9 h
       | false=>
         simp only [hx,cond_false] at h;obtain ⟨h⟩:=h;simp only [zt8,hx,qde] at hc;have g1:f<N:=qbC hc;rw [zds (hE f g1 hx)];rw [zfb] at h;exact znW h
     | tmp t=>
       simp only [opK] at h;have:=zi9 (o:=⟨dst,.call ⟨.value (.tmp t),args,argTypes⟩,I,pos,C,D⟩) (a:=a) (Q:=Q) h;simpa [execOp,resolve,zlM,zfb] using this
     | const v=>
       simp only [opK] at h;have:=zi9 (o:=⟨dst,.call ⟨.value (.const v),args,argTypes⟩,I,pos,C,D⟩) (a:=a) (Q:=Q) h;simpa [execOp,resolve,zlM,zfb] using this
     | global g=>
       simp only [opK] at h;have:=zi9 (o:=⟨dst,.call ⟨.value (.global g),args,argTypes⟩,I,pos,C,D⟩) (a:=a) (Q:=Q) h;simpa [execOp,resolve,zlM,zfb] using this
   | invoke r m=>
     simp only [opK] at h;have:=zi9 (o:=⟨dst,.call ⟨.invoke r m,args,argTypes⟩,I,pos,C,D⟩) (a:=a) (Q:=Q) h;simpa [execOp,resolve,zFT,zfb] using this
   | builtin b=>
     cases b
     case append=>exact O h (by simp only [execOp,resolve,invoke,builtin,zfb,pure_bind])
     case copy=>exact O h (by simp only [execOp,resolve,invoke,builtin,zfb,pure_bind])
     case delete=>exact O h (by simp only [execOp,resolve,invoke,builtin,zfb,pure_bind])
     case clear=>exact O h (by simp only [execOp,resolve,invoke,builtin,zfb,pure_bind])
     case len=>exact rd rfl h
     case cap=>exact rd rfl h
     case min=>exact rd rfl h
     case max=>exact rd rfl h
     all_goals exact (show False from h).elim
 all_goals first | exact (show False from h).elim | exact rd rfl h
end
end Go.Sh
namespace Go.Sh
open Go.RowKit (Below)
variable {A:List Nat} {K K':vL->Prop} {N fl i j m n:Nat} {P:pG} {v:vL} {w w':wD}
theorem zo6 {m:Sem Next} {K K':vL->wD->Prop} (hk:∀ v w',K v w'->K' v w') (h:OPN P m w K):OPN P m w K':=by
 cases h with
 | value v w' hr k=>exact .value v w' hr (hk _ _ k)
 | skip w' hr k=>exact .skip w' hr (hk _ _ k)
 | enter f args w' hr k=>exact .enter f args w' hr (k.mono λ_ w'' ⟨v,he,h⟩=>⟨v,he,hk _ _ h⟩)
 | row r args w' hr k=>exact .row r args w' hr (k.mono λv w'' h=>hk _ _ h)
def OP.mono {m:Sem vL} {K K':vL->wD->Prop} (h:OP P m w K) (hk:∀ v w',K v w'->K' v w'):OP P m w K':=by
 obtain ⟨v,w',hr,k⟩:=h;exact ⟨v,w',hr,hk _ _ k⟩
def OPU.mono {m:Sem Unit} {K K':wD->Prop} (h:OPU P m w K) (hk:∀ w',K w'->K' w'):OPU P m w K':=by
 obtain ⟨w',hr,k⟩:=h;exact ⟨w',hr,hk _ k⟩
def RDr.mono {x:Xt} {m:Sem vL} (h:match x.X with | none=>RD P m w K | some X=>RDX P X m w K) (hk:∀ v,K v->K' v):(match x.X with | none=>RD P m w K' | some X=>RDX P X m w K'):=by
 obtain ⟨v,h1,h2⟩:=RDr_iff.1 h;exact RDr_iff.2 ⟨v,h1,hk v h2⟩
def RD.mono {m:Sem vL} (h:RD P m w K) (hk:∀ v,K v->K' v):RD P m w K':=by
 obtain ⟨v,hr,k⟩:=h;exact ⟨v,hr,hk _ k⟩
def CALL.mono {f:FuncId} {args:List vL} {K K':vL->wD->Prop} (h:CALL P f args w K) (hk:∀ v w',K v w'->K' v w'):CALL P f args w K':=by
 obtain ⟨h⟩:=h;exact ⟨h.mono λ_ w' ⟨v,he,k⟩=>⟨v,he,hk _ _ k⟩⟩
def NIL.mono {k k':Prop} (h:NIL v k) (hk:k->k'):NIL v k':=by
 obtain ⟨a,b⟩:=h;exact ⟨a,hk b⟩
def BR.mono {a b a' b':Prop} (h:BR v a b) (ha:a->a') (hb:b->b'):BR v a' b':=by
 rw [zqF] at *;obtain ⟨t,ht,h⟩:=h;refine ⟨t,ht,?_⟩;cases t<;>simp at h ⊢
 . exact hb h
 exact ha h
def zja {ext:Xt} {o:Oper} {ρ:Operand->vL} {K K':vL->wD->Prop} (hk:∀ v w',K v w'->K' v w')
   (h:opK P ext o ρ w K):opK P ext o ρ w K':=by
 obtain ⟨_,op,_,_,_,_⟩:=o;cases op
 case call c=>
   obtain ⟨callee,_,_⟩:=c;cases callee with
   | value f=>
     cases f with
     | func f=>
       simp only [opK] at h ⊢;cases hx:ext.l.elem f<;>simp only [hx,cond_true,cond_false] at h ⊢
       . exact CALL.mono h hk
       exact zo6 hk h
     | _=>exact zo6 hk h
   | invoke r m=>exact zo6 hk h
   | builtin b=>
     cases b
     case append=>exact OP.mono h hk
     case copy=>exact OP.mono h hk
     case delete=>exact OP.mono h hk
     case clear=>exact OP.mono h hk
     case len=>exact RDr.mono h λv=>hk v _
     case cap=>exact RDr.mono h λv=>hk v _
     case min=>exact RDr.mono h λv=>hk v _
     case max=>exact RDr.mono h λv=>hk v _
     all_goals exact (show False from h).elim
 case move x=>exact hk _ _ h
 case assign x=>exact hk _ _ h
 case pick c x y=>exact BR.mono h (hk _ _) (hk _ _)
 case nilCheck x=>exact NIL.mono h (hk _ _)
 all_goals first
   | exact (show False from h).elim
   | exact OP.mono h hk
   | exact OPU.mono h λw'=>hk _ w'
   | exact RDr.mono h λv=>hk v _
def zsR {o:Oper} {ρ ρ':Operand->vL} (h:∀ x∈o.op.operands,ρ x=ρ' x):zd9 o ρ=zd9 o ρ':=by
 obtain ⟨_,op,_,_,_,_⟩:=o;have ar:∀ xs:Array Operand,(∀ x∈xs,ρ x=ρ' x)->xs.toList.map ρ=xs.toList.map ρ':=λxs hx=>qa5 λx hm=>hx x (by simpa using hm);cases op<;>simp only [Op.operands] at h<;>simp only [zd9]
 case build t ps=>
   have:prs ρ ps.toList=prs ρ' ps.toList:=by
     have:∀ l:List (Nat×Operand),(∀ p∈l,ρ p.2=ρ' p.2)->prs ρ l=prs ρ' l:=by
       intro l
       induction l with
       | nil=>intro _;rfl
       | cons p l ih=>intro hl;obtain ⟨i,x⟩:=p;simp only [prs];rw [ih λp hp=>hl p (by simp [hp]),show ρ x=ρ' x from hl (i,x) sS]
     exact this _ λp hp=>h p.2 (by simp;exact ⟨p.1,by simpa using hp⟩)
   rw [this]
 case makeFunc fn first captured=>
   rw [ar first λx hx=>h x (by simp [hx]),ar captured λx hx=>h x (by simp [hx])]
 case call c=>
   obtain ⟨callee,args,_⟩:=c;cases callee with
   | value f=>rfl
   | invoke r m=>rfl
   | builtin b=>cases b<;>first | rfl | (simp only;rw [ar args λx hx=>h x (by simp [Call.operands,hx])])
 case slice t x lo hi mx=>cases lo<;>cases hi<;>cases mx<;>simp_all
 all_goals first | rfl | (simp_all;done)
def zqG {ext:Xt} {o:Oper} {ρ ρ':Operand->vL} {K:vL->wD->Prop} (h:∀ x∈o.op.operands,ρ x=ρ' x)
   (hk:opK P ext o ρ w K):opK P ext o ρ' w K:=by
 have hr:=zsR h;obtain ⟨_,op,_,_,_,_⟩:=o;have ar:∀ xs:Array Operand,(∀ x∈xs,ρ x=ρ' x)->xs.toList.map ρ=xs.toList.map ρ':=λxs hx=>qa5 λx hm=>hx x (by simpa using hm);have e1:∀ x,ρ x=ρ' x->ρ' x=ρ x:=λ_=>Eq.symm;cases op<;>simp only [Op.operands] at h
 case call c=>
   obtain ⟨callee,args,_⟩:=c;have ha:=ar args λx hx=>h x (by simp [Call.operands,hx]);cases callee with
   | value f=>
     have hf:ρ f=ρ' f:=h f (by simp [Call.operands]);cases f with
     | func f=>simp only [opK,ha] at hk ⊢;exact hk
     | _=>simp only [opK,ha,hf] at hk ⊢;exact hk
   | invoke r m=>
     have hf:ρ r=ρ' r:=h r (by simp [Call.operands]);simp only [opK,ha,hf] at hk ⊢;exact hk
   | builtin b=>
     cases b<;>simp only [opK,ha,zd9] at hk ⊢<;>exact hk
 case buildSlice t n ps=>
   have:prs ρ ps.toList=prs ρ' ps.toList:=by
     have:∀ l:List (Nat×Operand),(∀ p∈l,ρ p.2=ρ' p.2)->prs ρ l=prs ρ' l:=by
       intro l
       induction l with
       | nil=>intro _;rfl
       | cons p l ih=>intro hl;obtain ⟨i,x⟩:=p;simp only [prs];rw [ih λp hp=>hl p (by simp [hp]),show ρ x=ρ' x from hl (i,x) sS]
     exact this _ λp hp=>h p.2 (by simp;exact ⟨p.1,by simpa using hp⟩)
   simp only [opK,this] at hk ⊢;exact hk
 case makeMap t r=>
   cases r with
   | none=>exact hk
   | some r=>simp only [opK,qcH] at hk ⊢;rwa [<-h r sS]
 case move x=>simp only [opK] at hk ⊢;rwa [<-h x sS]
 case assign x=>simp only [opK] at hk ⊢;rwa [<-h x sS]
 case pick c x y=>simp only [opK] at hk ⊢;rwa [<-h x sS,<-h y sS,<-h c sS]
 case nilCheck x=>simp only [opK] at hk ⊢;rwa [<-h x sS]
 case alloc e=>exact hk
 case box e x=>simp only [opK] at hk ⊢;rwa [<-h x sS]
 case store t x y=>simp only [opK] at hk ⊢;rwa [<-h x sS,<-h y sS]
 case makeSlice t x y=>simp only [opK] at hk ⊢;rwa [<-h x sS,<-h y sS]
 case mapUpdate t x y z=>simp only [opK] at hk ⊢;rwa [<-h x sS,<-h y sS,<-h z sS]
 case insert t x y z=>simp only [opK] at hk ⊢;rwa [<-h x sS,<-h y sS,<-h z sS]
 case mapEntry t x y=>simp only [opK] at hk ⊢;rwa [<-h x sS,<-h y sS]
 case entryStore t x y z=>simp only [opK] at hk ⊢;rwa [<-h x sS,<-h y sS,<-h z sS]
 case range t x=>simp only [opK] at hk ⊢;rwa [<-h x sS]
 case next x b=>simp only [opK] at hk ⊢;rwa [<-h x sS]
 case entry x=>simp only [opK] at hk ⊢;rwa [<-h x sS]
 all_goals first
   | exact (show False from hk).elim
   | (simp only [opK] at hk ⊢;rw [<-hr];exact hk)
def zsS (o:Oper):Bool:=
 match o.op with
 | .move _=>true
 | .assign _=>true
 | .pick ..=>true
 | .nilCheck _=>true
 | _=>(zd9 o λ_=>undef).isSome
def Rv (P:pG) (x:Xt) (o:Oper) (ρ:Operand->vL) (w:wD) (v:vL):Prop:=
 match o.op with
 | .move x=>v=ρ x
 | .assign x=>v=ρ x
 | .pick c a b=>∃ t,ρ c=.bool t/\v=if t then ρ a else ρ b
 | .nilCheck x=>zxw (ρ x)=true/\v=ρ x
 | _=>∃ m,zd9 o ρ=some m/\∀ w',x.rel w w'->m.run P w'=.ok v w'
def zjb {ext:Xt} {o:Oper} {ρ:Operand->vL} {K:vL->wD->Prop} (hr:zsS o=true) :
   opK P ext o ρ w K↔∃ v,Rv P ext o ρ w v/\K v w:=by
 obtain ⟨_,op,_,_,_,_⟩:=o
 have rd:∀ m,(match ext.X with | none=>RD P m w (λv=>K v w) | some X=>RDX P X m w (λv=>K v w))↔∃ v,(∃ m',some m=some m'/\∀ w',ext.rel w w'->m'.run P w'=.ok v w')/\K v w:=λm=>
   RDr_iff.trans ⟨λ⟨v,h,k⟩=>⟨v,⟨m,rfl,h⟩,k⟩,λ⟨v,⟨m',e,h⟩,k⟩=>by cases e;exact ⟨v,h,k⟩⟩
 cases op
 case move x=>simp [opK,Rv]
 case assign x=>simp [opK,Rv]
 case pick c x y=>
   simp only [opK,Rv,zqF];constructor
   . rintro ⟨b,hb,h⟩;exact ⟨_,⟨b,hb,rfl⟩,by cases b<;>exact h⟩
   rintro ⟨v,⟨b,hb,rfl⟩,h⟩;exact ⟨b,hb,by cases b<;>exact h⟩
 case nilCheck x=>
   simp only [opK,Rv];exact ⟨λ⟨a,b⟩=>⟨_,⟨a,rfl⟩,b⟩,λ⟨v,⟨a,e⟩,b⟩=>by subst e;exact ⟨a,b⟩⟩
 case call c=>
   obtain ⟨callee,_,_⟩:=c;cases callee with
   | value f=>simp [zsS,zd9] at hr
   | invoke r m=>simp [zsS,zd9] at hr
   | builtin b=>cases b<;>first | exact rd _ | (simp [zsS,zd9] at hr)
 all_goals first
   | exact rd _
   | (simp [zsS,zd9] at hr)
def zFV {x:Xt} {o:Oper} {ρ:Operand->vL} (h:Rv P x o ρ w v) (hx:x.rel w w'):Rv P x o ρ w' v:=by
 unfold Rv at *;split at h<;>try exact h
 obtain ⟨m,hm,h⟩:=h;exact ⟨m,hm,λw'' g0=>h w'' (x.rel_trans hx g0)⟩
def zAX {xt:Xt} {o:Oper} {ρ ρ':Operand->vL} (h:∀ x∈o.op.operands,ρ x=ρ' x) (hr:zsS o=true) (hv:Rv P xt o ρ w v):Rv P xt o ρ' w v:=by
 have h1:=(zjb (P:=P) (ext:=xt) (K:=λv' w'=>v'=v/\w'=w) hr).2 ⟨v,hv,rfl,rfl⟩;obtain ⟨v',g0,rfl,_⟩:=(zjb hr).1 (zqG h h1);exact g0
def zfi (o:Oper):Bool:=
 match o.op with
 | .move _=>true
 | .assign _=>true
 | .pick ..=>true
 | .nilCheck _=>true
 | .extract ..=>true
 | _=>false
def zhj {o:Oper} (h:zfi o=true):zsS o=true:=by
 obtain ⟨_,op,_,_,_,_⟩:=o;cases op<;>first | rfl | (simp [zfi] at h)
def zD9 {x:Xt} {o:Oper} {ρ:Operand->vL} (hp:zfi o=true) (h:Rv P x o ρ w v):Rv P x o ρ w' v:=by
 obtain ⟨_,op,_,_,_,_⟩:=o;cases op<;>first | exact h | (simp [zfi] at hp;done) | skip
 case extract t i=>
   obtain ⟨_,hm,h⟩:=h;simp only [zd9,qao] at hm;subst hm;refine ⟨_,rfl,λ_ _=>?_⟩;have h1:=h w (x.rel_refl w)
   revert h1
   cases ρ t with
   | tuple vs=>
     simp only [Instr.extract];cases vs[i]? with
     | none=>intro h1;simp at h1
     | some u=>intro h1;simp at h1 ⊢;exact h1
   | _=>intro h1;simp [Instr.extract] at h1
def gOk (ol:List Oper) (o:Oper) (s:Env):Option Bool:=
 match o.guard with
 | none=>some true
 | some (j,want)=>
   match (nth ol j).bind (·.dst) with
   | none=>none
   | some d=>match s d with
     | .bool b=>some (b == want)
     | .tuple a=>bif Nat.beq a.size 0 then (match (nth ol j).bind (·.guard) with | none=>none | some _=>some false) else none
     | _=>none
theorem zEa (v:vL) (kt kf ks:Prop):GBR v kt kf ks↔(∃ b,v=.bool b/\(if b then kt else kf))\/(v=undef/\ks):=by
 cases v with
 | bool b=>cases b<;>simp [GBR,undef]
 | tuple a=>
   simp only [GBR,undef];cases h:Nat.beq a.size 0 with
   | true=>
     have:a=#[]:=qc4.1 (qb9 h);subst this;simp
   | false=>
     have:a≠#[]:=λe=>by subst e;cases h
     simp [this]
 | _=>simp [GBR,undef]
theorem zeb {ext:Xt} {ol:List Oper} {s:Env} {K:Env->wD->Prop} {o:Oper} (ho:nth ol i=some o) :
   zgl P ext ol fl i s w K↔∃ b,gOk ol o s=some b/\(if b then opF P ext o (zbA fl i) s w K else K (put s o.dst undef) w):=by
 unfold zgl gOk;simp only [ho];cases hg:o.guard with
 | none=>simp
 | some g=>
   obtain ⟨j,r⟩:=g;simp only;cases hd:(nth ol j).bind (·.dst) with
   | none=>simp
   | some d=>
     simp only;cases hgj:(nth ol j).bind (·.guard) with
     | none=>
       simp only [zqF];constructor
       . rintro ⟨b,hb,h⟩;have hu:=zgI hb;refine ⟨b == r,by simp [hb],?_⟩;cases b<;>cases r<;>simp only [cond_true,cond_false,if_true,qa4,if_false,hu] at h ⊢<;>simpa using h
       rintro ⟨c,hc,h⟩;cases hv:s d with
       | bool b=>
         rw [hv] at hc;simp only [qao] at hc;subst hc;have hu:=zgI hv;refine ⟨b,rfl,?_⟩;cases b<;>cases r<;>simp only [cond_true,cond_false,if_true,qa4,if_false,hu]<;>simpa using h
       | tuple a=>rw [hv] at hc;simp only at hc;cases h0:Nat.beq a.size 0<;>rw [h0] at hc<;>simp at hc
       | _=>rw [hv] at hc;simp at hc
     | some g'=>
       simp only [zEa];constructor
       . rintro (⟨b,hb,h⟩ | ⟨hb,h⟩)
         . have hu:=zgI hb;refine ⟨b == r,by simp [hb],?_⟩;cases b<;>cases r<;>simp only [cond_true,cond_false,if_true,qa4,if_false,hu] at h ⊢<;>simpa using h
         have hu:=zgI hb;rw [hu] at h;exact ⟨false,by rw [hb];rfl,by simpa using h⟩
       rintro ⟨c,hc,h⟩;cases hv:s d with
       | bool b=>
         rw [hv] at hc;simp only [qao] at hc;subst hc;have hu:=zgI hv;refine .inl ⟨b,rfl,?_⟩;cases b<;>cases r<;>simp only [cond_true,cond_false,if_true,qa4,if_false,hu]<;>simpa using h
       | tuple a=>
         rw [hv] at hc;simp only at hc;cases h0:Nat.beq a.size 0 with
         | false=>rw [h0] at hc;simp at hc
         | true=>
           rw [h0] at hc;simp only [cond_true,qao] at hc;subst hc;have ha:a=#[]:=qc4.1 (qb9 h0);subst ha;have hu:upd s d undef=s:=zgI hv;refine .inr ⟨rfl,?_⟩;rw [hu];simpa using h
       | _=>rw [hv] at hc;simp at hc
def zAY {ext:Xt} {o:Oper} {r:Bool} {s:Env} {K K':Env->wD->Prop} (hk:∀ s w,K s w->K' s w)
   (h:opF P ext o r s w K):opF P ext o r s w K':=by
 refine zja (λ_ _ hh=>?_) h;cases r
 . exact hk _ _ hh
 exact ⟨hh.1,hk _ _ hh.2⟩
theorem zvS {ext:Xt} {ol:List Oper} {s:Env} {K K':Env->wD->Prop} (hk:∀ s w,K s w->K' s w)
   (h:zgl P ext ol fl i s w K):zgl P ext ol fl i s w K':=by
 cases ho:nth ol i with
 | none=>simp [zgl,ho] at h
 | some o=>
   rw [zeb ho] at h ⊢;obtain ⟨b,hb,h⟩:=h;refine ⟨b,hb,?_⟩;cases b
   . exact hk _ _ h
   exact zAY hk h
theorem zxA {ops:Array Oper} {o:Oper} {s:Env} {x:Option Nat} (h:∀ d,x=some d->d∉o.looksAt ops):gOk ops.toList o (put s x v)=gOk ops.toList o s:=by
 unfold gOk;cases hg:o.guard with
 | none=>rfl
 | some g=>
   obtain ⟨j,_⟩:=g;simp only;cases hd:(nth ops.toList j).bind (·.dst) with
   | none=>rfl
   | some t=>
     have:put s x v t=s t:=zxx λd hx e=>h d hx (by subst e;rw [zdW] at hd;simp [Oper.looksAt,hg,hd]);simp only [this]
theorem zCC {ops:Array Oper} {o:Oper} {s:Env} {x:Option Nat} (h:∀ d,x=some d->d∉o.looksAt ops):∀ y∈o.op.operands,ev (put s x v) y=ev s y:=by
 intro y hy;cases y with
 | tmp t=>
   show put s x v t=s t;exact zxx λd hx e=>h d hx (by subst e;exact qaS _ (qb7.2 ⟨.tmp t,by simpa using hy,rfl⟩))
 | _=>rfl
theorem zHW {ext:Xt} {ops:Array Oper} {fl x y:Nat} {ox oy:Oper} {s:Env} {K:Env->wD->Prop}
   (hx:nth ops.toList x=some ox) (hy:nth ops.toList y=some oy) (hr:zsS ox=true) (g2:zbA fl x=false) (g5:ox.apart ops oy=true) (hf:zsS oy=true\/zbA fl y=true\/zfi ox=true)
   (h:zgl P ext ops.toList fl x s w λs w=>zgl P ext ops.toList fl y s w K) :
   zgl P ext ops.toList fl y s w λs w=>zgl P ext ops.toList fl x s w K:=by
 obtain ⟨h1,h2,h3⟩:=Oper.apart_spec g5;rw [zeb hx] at h;obtain ⟨bx,g1,h⟩:=h
 have g9:∃ v,(∀ s2 w2,(ext.rel w w2\/zfi ox=true)->(gOk ops.toList ox s2=gOk ops.toList ox s)->(∀ z∈ox.op.operands,ev s2 z=ev s z)->K (put s2 ox.dst v) w2->zgl P ext ops.toList fl x s2 w2 K) /\
     zgl P ext ops.toList fl y (put s ox.dst v) w K:=by
   cases bx with
   | false=>
     refine ⟨undef,λs2 w2 _ hg _ hk=>?_,h⟩;rw [zeb hx];exact ⟨false,by rw [hg,g1],hk⟩
   | true=>
     simp only [if_true] at h;obtain ⟨v,hv,hk⟩:=(zjb hr).1 h;rw [g2] at hk;refine ⟨v,λs2 w2 C hg he g3=>?_,hk⟩;rw [zeb hx];refine ⟨true,by rw [hg,g1],?_⟩;rw [g2];simp only [if_true];unfold opF;have g4:=zAX (λz hz=>(he z hz).symm) hr hv;rcases C with C | C
     . exact (zjb hr).2 ⟨v,zFV g4 C,g3⟩
     exact (zjb hr).2 ⟨v,zD9 C g4,g3⟩
 obtain ⟨v,g0,r⟩:=g9;rw [zeb hy] at r ⊢;obtain ⟨b,hb,r⟩:=r;rw [zxA (λd hd=>h1 d hd)] at hb;refine ⟨b,hb,?_⟩
 have fin:∀ u w2,(ext.rel w w2\/zfi ox=true)->K (put (put s ox.dst v) oy.dst u) w2->zgl P ext ops.toList fl x (put s oy.dst u) w2 K:=by
   intro u w2 C hk;refine g0 _ _ C (zxA λd hd=>h3 d hd) (zCC λd hd=>h3 d hd) ?_;rw [<-zAV s v u h2];exact hk
 cases b with
 | false=>exact fin _ _ (.inl (ext.rel_refl w)) r
 | true=>
   simp only [if_true] at r ⊢;unfold opF at r ⊢;have r:=zqG (ρ':=ev s) (zCC λd hd=>h1 d hd) r;rcases hf with hf | hf | hf
   . obtain ⟨u,hu,hk⟩:=(zjb hf).1 r;refine (zjb hf).2 ⟨u,hu,?_⟩;cases hm:zbA fl y<;>rw [hm] at hk
     . exact fin _ _ (.inl (ext.rel_refl w)) hk
     exact ⟨hk.1,fin _ _ (.inl hk.1) hk.2⟩
   . refine zja (λu w2 hk=>?_) r;rw [hf] at hk ⊢;exact ⟨hk.1,fin _ _ (.inl hk.1) hk.2⟩
   refine zja (λu w2 hk=>?_) r;cases hm:zbA fl y<;>rw [hm] at hk
   . exact fin _ _ (.inr hf) hk
   exact ⟨hk.1,fin _ _ (.inr hf) hk.2⟩
theorem zvT {ext:Xt} {ops:Array Oper} {fl y:Nat} {oy:Oper} {K:Env->wD->Prop} (hy:nth ops.toList y=some oy) (c2:List Nat) :
   ∀ (c1:List Nat) (s:Env) (w:wD),(∀ x∈c1,∃ ox,nth ops.toList x=some ox/\zsS ox=true/\zbA fl x=false/\ox.apart ops oy=true/\(zsS oy=true\/zbA fl y=true\/zfi ox=true)) ->
     zfm P ext ops.toList fl K (c1++y :: c2) s w->zfm P ext ops.toList fl K (y :: (c1++c2)) s w:=by
 intro c1
 induction c1 with
 | nil=>intro s w _ h;exact h
 | cons x c1 ih=>
   intro s w hc h;obtain ⟨ox,hx,hr,g0,g1,hf⟩:=hc x sS;refine zHW hx hy hr g0 g1 hf<|zvS (λs w hk=>ih s w (λz hz=>hc z (by simp [hz])) hk) h
structure Kept (n:Nat) (ds:List Nat) (a a':Act):Prop where
 size:a'.tmps.size=n
 defers:a'.defers=a.defers
 env:∀ t,t∉ds->zbP a' t=zbP a t
def Kept.refl {a:Act} (ds:List Nat) (h:a.tmps.size=n):Kept n ds a a:=⟨h,rfl,λ_ _=>rfl⟩
def Kept.trans {d1 d2 ds:List Nat} {a b c:Act} (h:Kept n d1 a b) (k:Kept n d2 b c) (h1:∀ t,t∈d1->t∈ds) (h2:∀ t,t∈d2->t∈ds):Kept n ds a c:=
 ⟨k.size,k.defers.trans h.defers,λt ht=>(k.env t λe=>ht (h2 t e)).trans (h.env t λe=>ht (h1 t e))⟩
def zlO (ol:List Oper):List Nat:=ol.filterMap (·.dst)
def zsT (ext:List Nat) (N n:Nat) (ol:List Oper):Bool:=ol.all λo=>zt8 ext N o&&(match o.dst with | some d=>Nat.blt d n | none=>true)
def zAZ {ext:Xt} {ol:List Oper} (h:zsT ext.l N n ol=true) {i:Nat} {o:Oper} (ho:nth ol i=some o) :
   zt8 ext.l N o=true/\(∀ d,o.dst=some d->d<n)/\(∀ d,o.dst=some d->d∈zlO ol):=by
 rw [zit] at ho;have hm:=List.mem_of_getElem? ho;have h1:=qaM.1 h o hm;simp only [qar] at h1;refine ⟨h1.1,λd hd=>?_,λd hd=>qb7.2 ⟨o,hm,hd⟩⟩;have h2:=h1.2;rw [hd] at h2;exact qbC h2
theorem zvU {ops:Array Oper} {o:Oper} {a:Act} {b:Bool} (h:gOk ops.toList o (zbP a)=some b):Region.wanted o (yielded ops a.tmps)=b:=by
 unfold gOk at h;unfold Region.wanted;cases hg:o.guard with
 | none=>rw [hg] at h;simpa using h
 | some g=>
   obtain ⟨j,g0⟩:=g;rw [hg] at h;simp only at h ⊢;rw [zdW] at h;unfold yielded;cases hd:(ops[j]?).bind (·.dst) with
   | none=>rw [hd] at h;simp at h
   | some d=>
     rw [hd] at h;simp only [qc2] at h ⊢;cases hv:a.tmps[d]? with
     | none=>
       have:zbP a d=undef:=by simp [zbP,hv]
       rw [this] at h;simp only [undef] at h;cases hgj:(ops[j]?).bind (·.guard) with
       | none=>rw [hgj] at h;simp at h
       | some g'=>
         rw [hgj] at h;simp at h;rw [h];rfl
     | some v=>
       have:zbP a d=v:=by simp [zbP,hv]
       rw [this] at h;cases v with
       | bool c=>simp only [qao] at h;subst h;cases c<;>cases g0<;>rfl
       | tuple a=>
         simp only at h;cases h0:Nat.beq a.size 0 with
         | false=>rw [h0] at h;simp at h
         | true=>
           rw [h0] at h;simp only [cond_true] at h;cases hgj:(ops[j]?).bind (·.guard) with
           | none=>rw [hgj] at h;simp at h
           | some g'=>
             rw [hgj] at h;simp only [qao] at h;subst h;rfl
       | _=>simp at h
section
variable {P:pG} {ext:Xt} {N n:Nat} (hE:∀ f,f<N->ext.l.elem f=false->zea P f=true)
include hE
theorem zgJ {ops:Array Oper} {fl i:Nat} {a:Act} {w:wD} {K:Env->wD->Prop} {M:Act->wD->Prop} {Q:Exit->Act->wD->Prop}
   (g0:zsT ext.l N n ops.toList=true) (hn:a.tmps.size=n) (h:zgl P ext ops.toList fl i (zbP a) w K)
   (hM:∀ a' w',Kept n (zlO ops.toList) a a'->K (zbP a') w'->M a' w'):wpOp P ops Q i M a w:=by
 cases ho:nth ops.toList i with
 | none=>simp [zgl,ho] at h
 | some o=>
   obtain ⟨hc,hd,hm⟩:=zAZ g0 ho;have C:∀ v,zbP (a.put o.dst v)=put (zbP a) o.dst v:=λv=>zxy λt ht=>by rw [hn];exact hd t ht
   have r:∀ v,Kept n (zlO ops.toList) a (a.put o.dst v):=λv=>
     ⟨by rw [zAW,hn],zD7 a _ v,λt ht=>by rw [C];exact zxx λd hd e=>ht (e▸hm d hd)⟩
   rw [zeb ho] at h;obtain ⟨b,hb,h⟩:=h;unfold wpOp;rw [<-zdW,ho];simp only [zvU hb];cases b with
   | false=>
     simp only [qa4,if_false] at h ⊢;exact hM _ _ (r _) (by rw [C];exact h)
   | true=>
     simp only [if_true] at h ⊢;refine .inl ?_;unfold opF at h;rw [zt7] at h;refine Oper.wp_mono (λa' w'=>?_) (zxz hE hc h);rintro ⟨v,rfl,hk⟩;refine hM _ _ (r v) ?_;rw [C];cases hf:zbA fl i<;>rw [hf] at hk
     . exact hk
     exact hk.2
theorem zsU {ops:Array Oper} {fl:Nat} {K:Env->wD->Prop} {Q:Exit->Act->wD->Prop} (g0:zsT ext.l N n ops.toList=true) :
   ∀ (l:List Nat) (a:Act) (w:wD),a.tmps.size=n->zfm P ext ops.toList fl K l (zbP a) w ->
     (∀ a' w',Kept n (zlO ops.toList) a a'->K (zbP a') w'->Q .normal a' w')->wpOps P ops Q l a w:=by
 intro l
 induction l with
 | nil=>intro a w hn h hq;exact hq a w (.refl _ hn) h
 | cons i l ih=>
   intro a w hn h hq;rw [wpOps_cons];exact zgJ hE g0 hn h λa' w' hk hh=>ih a' w' hk.size hh λg1 w'' g2 g3=>hq g1 w'' (hk.trans g2 (λ_ h=>h) (λ_ h=>h)) g3
end
def zsV:List Oper->List Nat->List Nat
 | [],acc=>acc
 | o :: r,acc=>zsV r (acc++[o.after.toList.foldl (λm e=>bif Region.binds .any e then Nat.lor (Nat.lor m (Nat.shiftLeft 1 e.on)) (match nth acc e.on with | some k=>k | none=>0) else m) 0])
def zA0 (ol:List Oper):List Nat:=zsV ol []
def zf8 (A:List Nat) (j:Nat):Nat:=match nth A j with | some k=>k | none=>0
theorem zEb {l:List Edge}
   (h:Nat.testBit (l.foldl (λm e=>bif Region.binds .any e then Nat.lor (Nat.lor m (Nat.shiftLeft 1 e.on)) (zf8 A e.on) else m) m) i=true) :
   Nat.testBit m i=true\/∃ e∈l,Region.binds .any e=true/\(e.on=i\/Nat.testBit (zf8 A e.on) i=true):=by
 induction l generalizing m with
 | nil=>exact .inl h
 | cons e l ih=>
   rcases ih h with h | ⟨e',he,hb,hh⟩
   . dsimp only at h;cases hb:Region.binds .any e with
     | false=>rw [hb] at h;exact .inl h
     | true=>
       rw [hb] at h;simp only [cond_true] at h;change Nat.testBit ((m ||| (1 <<< e.on)) ||| zf8 A e.on) i=true at h;simp only [qaV,qaR] at h;rcases h with (h | h) | h
       . exact .inl h
       . refine .inr ⟨e,sS,hb,.inl ?_⟩;rw [Nat.one_shiftLeft,qaN] at h;simpa using h
       exact .inr ⟨e,sS,hb,.inr h⟩
   exact .inr ⟨e',by simp [he],hb,hh⟩
def zec {α:Type} {l r:List α} (h:j<l.length):nth (l++r) j=nth l j:=by
 rw [zit,zit,List.getElem?_append_left h]
theorem zvV:∀ (ol:List Oper) (D:List Oper) (C:List Nat),C.length=D.length ->
   (∀ j o,nth D j=some o->∀ i,Nat.testBit (zf8 C j) i=true->∃ e∈o.after,Region.binds .any e=true/\(e.on=i\/(e.on<j/\Nat.testBit (zf8 C e.on) i=true))) ->
   (zsV ol C).length=(D++ol).length /\
   ∀ j o,nth (D++ol) j=some o->∀ i,Nat.testBit (zf8 (zsV ol C) j) i=true->∃ e∈o.after,Region.binds .any e=true/\(e.on=i\/(e.on<j/\Nat.testBit (zf8 (zsV ol C) e.on) i=true)):=by
 intro ol
 induction ol with
 | nil=>intro D C hl h;simpa [zsV] using ⟨hl,h⟩
 | cons o r ih=>
   intro D C hl h;have step:=ih (D++[o]) (C++[o.after.toList.foldl (λm e=>bif Region.binds .any e then Nat.lor (Nat.lor m (Nat.shiftLeft 1 e.on)) (match nth C e.on with | some k=>k | none=>0) else m) 0]) (by simp [hl]) ?_
   . simpa [zsV] using step
   intro j p hp i hi;rcases qcy j D.length with hj | hj | hj
   . rw [zec hj] at hp;have g0:j<C.length:=oo;have hi':Nat.testBit (zf8 C j) i=true:=by simpa only [zf8,zec g0] using hi
     obtain ⟨e,he,hb,hh⟩:=h j p hp i hi';refine ⟨e,he,hb,hh.imp id λ⟨h1,h2⟩=>⟨h1,?_⟩⟩;simpa only [zf8,zec (show e.on<C.length by omega)] using h2
   . subst hj;have g1:p=o:=by rw [zit] at hp;simpa using hp.symm
     subst g1
     have:zf8 (C++[p.after.toList.foldl (λm e=>bif Region.binds .any e then Nat.lor (Nat.lor m (Nat.shiftLeft 1 e.on)) (match nth C e.on with | some k=>k | none=>0) else m) 0]) D.length=p.after.toList.foldl (λm e=>bif Region.binds .any e then Nat.lor (Nat.lor m (Nat.shiftLeft 1 e.on)) (zf8 C e.on) else m) 0:=by
       unfold zf8;rw [zit,<-hl];simp
     rw [this] at hi;rcases zEb hi with h0 | ⟨e,he,hb,hh⟩
     . simp at h0
     refine ⟨e,by simpa using he,hb,hh.imp id λh2=>?_⟩
     have g2:e.on<C.length:=by
       rcases qay e.on C.length with h' | h'
       . exact h'
       have:zf8 C e.on=0:=by unfold zf8;rw [zit,List.getElem?_eq_none h']
       rw [this] at h2;simp at h2
     exact ⟨oo,by simpa only [zf8,zec g2] using h2⟩
   have:nth (D++[o]) j=none:=by rw [zit];simp;omega
   rw [this] at hp;cases hp
def zxB (ol:List Oper) (j:Nat) (o:Oper) (ho:nth ol j=some o) (i:Nat) (h:Nat.testBit (zf8 (zA0 ol) j) i=true) :
   ∃ e∈o.after,Region.binds .any e=true/\(e.on=i\/(e.on<j/\Nat.testBit (zf8 (zA0 ol) e.on) i=true)):=
 (zvV ol [] [] rfl (by intro j o h;simp [nth] at h)).2 j o ho i h
end Go.Sh
namespace Go.Sh
open Go.RowKit (Below)
variable {N j m n p:Nat} {P:pG} {w:wD}
def znX:List Nat->Bool
 | []=>true
 | x :: l=>!l.elem x&&znX l
def zFF (ol:List Oper):List Nat->List Nat->Bool
 | _,[]=>true
 | seen,i :: r=>(match nth ol i with | some o=>o.after.toList.all λe=>!Region.binds .any e || seen.elem e.on | none=>false)&&zFF ol (i :: seen) r
def zxC (ops:Array Oper) (A:List Nat) (fl i j:Nat):Bool:=
 zbA (zf8 A j) i || (match nth ops.toList i,nth ops.toList j with
   | some oi,some oj=>zsS oi&&!zbA fl i&&oi.apart ops oj&&(zsS oj || (zbA fl j || zfi oi))
   | _,_=>false)
def ziu (ops:Array Oper) (A:List Nat) (fl:Nat):List Nat->Bool
 | []=>true
 | i :: r=>r.all (zxC ops A fl i)&&ziu ops A fl r
def zCD (ops:Array Oper) (c:List Nat) (fl:Nat):Bool:=
 znX c&&(c.all λi=>Nat.blt i ops.size)&&((List.range ops.size).all λi=>c.elem i)&&zFF ops.toList [] c&&ziu ops (zA0 ops.toList) fl c
theorem zgK:∀ {l:List Nat},znX l=true->l.Nodup
 | [],_=>qav
 | x :: l,h=>by
   simp only [znX,qar,qaY] at h;refine qaP.2 ⟨λhm=>?_,zgK h.2⟩;have:l.elem x=true:=qcT hm;rw [h.1] at this;cases this
theorem zjc {ops:Array Oper} {A:List Nat} {fl:Nat}:∀ {c1 c2:List Nat} {y:Nat},ziu ops A fl (c1++y :: c2)=true ->
   (∀ x∈c1,zxC ops A fl x y=true)/\ziu ops A fl (c1++c2)=true
 | [],c2,y,h=>by
   simp only [qbE,ziu,qar] at h;exact ⟨sS,h.2⟩
 | x :: c1,c2,y,h=>by
   simp only [qbz,ziu,qar,qaM] at h;obtain ⟨h1,h2⟩:=zjc h.2;refine ⟨λz hz=>?_,?_⟩
   . rcases qaa.1 hz with rfl | hz
     . exact h.1 y sS
     exact h1 z hz
   simp only [qbz,ziu,qar,qaM];exact ⟨λz hz=>h.1 z (by rcases qae.1 hz with hz | hz<;>simp [hz]),h2⟩
structure Closed (ops:Array Oper) (listed:Array Bool):Prop where
 size:listed.size=ops.size
 down:∀ j o,ops[j]?=some o->listed.getD j false=true->∀ e∈o.after,Region.binds .any e=true->listed.getD e.on false=true
theorem znY {ops:Array Oper} {listed:Array Bool} (hc:Closed ops listed):∀ (j:Nat) (o:Oper),ops[j]?=some o ->
   (∀ e∈o.after,Region.binds .any e=true->listed.getD e.on false=true)->∀ i,Nat.testBit (zf8 (zA0 ops.toList) j) i=true->listed.getD i false=true:=by
 intro j
 induction j using Nat.strongRecOn with
 | _ j ih=>
   intro o ho hd i hi;obtain ⟨e,he,hb,hh⟩:=zxB ops.toList j o (by rw [zdW];exact ho) i hi;have hl:=hd e he hb;rcases hh with rfl | ⟨g0,hh⟩
   . exact hl
   cases ho':ops[e.on]? with
   | none=>
     have:e.on<ops.size:=Nat.lt_trans g0 (Array.getElem?_eq_some_iff.1 ho).1;simp at ho';omega
   | some o'=>exact ih e.on g0 o' ho' (λe' g1 g2=>hc.down e.on o' ho' hl e' g1 g2) i hh
def Top (ops:Array Oper) (listed:Array Bool):List Nat->Prop
 | []=>True
 | i :: r=>(∃ o,ops[i]?=some o/\∀ e∈o.after,Region.binds .any e=true->listed.getD e.on false=true)/\Top ops (listed.setIfInBounds i true) r
theorem zo7 {ops:Array Oper}:∀ {c1 c2:List Nat} {y:Nat} {l:Array Bool},Top ops l (c1++y :: c2)->Top ops (l.setIfInBounds y true) (c1++c2)
 | [],_,_,_,h=>h.2
 | x :: c1,c2,y,l,⟨⟨o,ho,hd⟩,ht⟩=>by
   refine ⟨⟨o,ho,λe he hb=>getD_set_true (hd e he hb)⟩,?_⟩;have h2:=zo7 ht;by_cases hxy:x=y
   . subst hxy;exact h2
   rw [Array.setIfInBounds_comm _ _ (Ne.symm hxy)];exact h2
theorem zjd {ops:Array Oper}:∀ {c seen:List Nat} {l:Array Bool},(∀ k,seen.elem k=true->l.getD k false=true)->(∀ i∈c,i<l.size)->zFF ops.toList seen c=true->Top ops l c
 | [],_,_,_,_,_=>trivial
 | i :: c,seen,l,h,hc,ht=>by
   simp only [zFF,qar] at ht;cases ho:nth ops.toList i with
   | none=>simp [ho] at ht
   | some o=>
     simp only [ho,qaM,qaR,qaY] at ht;rw [zdW] at ho;refine ⟨⟨o,ho,λe he hb=>h _ ((ht.1 e (by simpa using he)).resolve_left (by simp [hb]))⟩,zjd (seen:=i :: seen) (λk hk=>?_) (λj hj=>by simpa using hc j (by simp [hj])) ht.2⟩;by_cases hik:i=k
     . subst hik;simp [hc i sS]
     rw [getD_set_ne false hik];refine h k ?_;have hm:k∈i :: seen:=qcU hk;rcases qaa.1 hm with e | hm
     . exact absurd e.symm hik
     exact qcT hm
section
variable {P:pG} {ext:Xt} {N n:Nat} (hE:∀ f,f<N->ext.l.elem f=false->zea P f=true)
include hE
theorem zkc {ops:Array Oper} {fl:Nat} {K:Env->wD->Prop} {Q:Exit->Act->wD->Prop} (gi:zsT ext.l N n ops.toList=true) :
   ∀ (C:Nat) (c:List Nat) (listed:Array Bool) (a:Act) (w:wD),c.length=C->c.Nodup->(∀ j,j∈c↔listed.getD j true=false)->Closed ops listed->Top ops listed c ->
     ziu ops (zA0 ops.toList) fl c=true->a.tmps.size=n->zfm P ext ops.toList fl K c (zbP a) w ->
     (∀ a' w',Kept n (zlO ops.toList) a a'->K (zbP a') w'->Q .normal a' w')->wpAny P .any ops Q C listed a w:=by
 intro C
 induction C with
 | zero=>
   intro c listed a w hl g4 hc g3 ht hp hn h hq;have g5:c=[]:=qan hl;subst g5;refine ⟨?_,hq a w (.refl _ hn) h⟩;rw [qbJ];intro j hj;exact absurd ((hc j).2 (mem_ready.1 hj).1) sS
 | succ C ih=>
   intro c listed a w hl g4 hc g3 ht hp hn h hq;refine ⟨λg0=>?_,λy hy=>?_⟩
   . cases c with
     | nil=>simp at hl
     | cons i r=>
       obtain ⟨⟨o,ho,hd⟩,_⟩:=ht;have:i∈Region.ready .any ops listed:=mem_ready.2 ⟨(hc i).1 sS,o,ho,hd⟩;rw [g0] at this;cases this
   obtain ⟨gd,oy,g9,I⟩:=mem_ready.1 hy;have gf:y∈c:=(hc y).2 gd;obtain ⟨c1,c2,rfl⟩:=qcq gf;have g1:nth ops.toList y=some oy:=by rw [zdW];exact g9
   obtain ⟨gg,gh⟩:=zjc hp
   have g2:∀ x∈c1,∃ ox,nth ops.toList x=some ox/\zsS ox=true/\zbA fl x=false/\ox.apart ops oy=true/\(zsS oy=true\/zbA fl y=true\/zfi ox=true):=by
     intro x hx;have D:=gg x hx;unfold zxC at D;rw [qaR] at D;rcases D with hb | hb
     . exfalso;rw [zgn] at hb;have h1:=znY g3 y oy g9 I x hb;have h2:=(hc x).1 (by simp [hx]);rcases qay x listed.size with h' | h'
       . simp [h'] at h1 h2;rw [h1] at h2;cases h2
       simp [Array.getElem?_eq_none h'] at h1
     rw [g1] at hb;cases hox:nth ops.toList x with
     | none=>simp [hox] at hb
     | some ox=>
       simp only [hox,qar,qaY,qaR] at hb;exact ⟨ox,rfl,hb.1.1.1,hb.1.1.2,hb.1.2,hb.2⟩
   have h':=zvT g1 c2 c1 (zbP a) w g2 h;refine zgJ hE gi hn h' λa' w' hk hh=>?_
   have gb:y<listed.size:=by
     rcases qay y listed.size with h' | h'
     . exact h'
     simp [Array.getElem?_eq_none h'] at gd
   have O:=g4;rw [qas] at O;refine ih (c1++c2) (listed.setIfInBounds y true) a' w' (by simp at hl ⊢;omega) ?_ ?_ ⟨by simp [g3.size],?_⟩ (zo7 ht) gh hk.size hh ?_
   . have:=g4.sublist (l₁:=c1++c2) (qbT (qb2 y c2) c1);exact this
   . intro j;by_cases hjy:y=j
     . subst hjy
       have gc:y∉c1++c2:=by
         intro hm;rcases qae.1 hm with hm | hm
         . exact O.2.2 y hm y sS rfl
         exact (qaP.1 O.2.1).1 hm
       simp [gc,gb]
     rw [getD_set_ne true hjy,<-hc j];simp only [qae,qaa];constructor
     . rintro (h | h)<;>simp [h]
     rintro (h | h | h)
     . exact .inl h
     . exact absurd h.symm hjy
     exact .inr h
   . intro j o ho hj e he hb;by_cases hjy:y=j
     . subst hjy;rw [g9] at ho;cases ho;exact getD_set_true (I e he hb)
     rw [getD_set_ne false hjy] at hj;exact getD_set_true (g3.down j o ho hj e he hb)
   exact λgj w'' gl gp=>hq gj w'' (hk.trans gl (λ_ h=>h) (λ_ h=>h)) gp
end
def zGZ (ops:Array Oper) (A:List Nat) (p i k:Nat):Bool:=
 zbA (zf8 A k) i || (match nth ops.toList i,nth ops.toList k with
   | some oi,some ok=>bif Nat.ble p k then Nat.blt i p&&(zfi oi&&oi.apart ops ok) else !(zfi oi&&zfi ok) || oi.apart ops ok
   | _,_=>false)
def zo8 (ops:Array Oper) (m p:Nat):Bool:=
 Nat.ble p ops.size&&znX (zlO ops.toList)&&(ops.toList.all λo=>o.guard.isNone)&&((zlO ops.toList).all λt=>zbA m t)&&((ops.toList.take p).all λo=>o.dst.isSome) &&
   zFF ops.toList [] (List.range ops.size)&&((List.range ops.size).all λk=>(List.range k).all λi=>zGZ ops (zA0 ops.toList) p i k)
theorem zlP {P:pG} {ext:Xt} {ol:List Oper} {m:Nat} {s:Env} {w:wD} {Q:ParQ}:∀ {l:List Oper} {k:Nat},zgH P ext ol m s w Q k l ->
   ∀ i o,l[i]?=some o->∀ (u:Env) (T:Nat->Nat×Nat) (w1:wD),Ext w w1->zo4 (onL o.after.toList) w.heap.size w1.heap.size T->zi8 Q u T w1 o.after.toList ->
     opK P ext o (ev (mix m s u)) w1 (λv w2=>Ext w1 w2/\Q (k+i) (upd u (znC ol (k+i)) v) (znB T (k+i) (w1.heap.size,w2.heap.size)) w2)
 | [],_,_,i,o,ho=>by simp at ho
 | x :: l,k,h,0,o,ho=>by
   simp only [List.getElem?_cons_zero,qao] at ho;subst ho;exact h.1
 | x :: l,k,h,i+1,o,ho=>by
   have:=zlP h.2 i o (by simpa using ho);rwa [show k+(i+1)=k+1+i by omega]
theorem zlQ {Q:ParQ} {u:Env} {T:Nat->Nat×Nat} {w:wD}:∀ {n k:Nat},(∀ i,i<n->Q (k+i) u T w)->zk0 Q u T w k n
 | 0,_,_=>trivial
 | n+1,k,h=>⟨h 0 oo,zlQ λi hi=>by have:=h (i+1) oo;rwa [show k+1+i=k+(i+1) by omega]⟩
theorem zje {Q:ParQ} {u:Env} {T:Nat->Nat×Nat} {w:wD}:∀ {l:List Edge},(∀ e∈l,Region.binds .any e=true->Q e.on u T w)->zi8 Q u T w l
 | [],_=>trivial
 | e :: l,h=>by
   simp only [zi8];cases hb:Region.binds .any e
   . exact zje λx hx=>h x (by simp [hx])
   exact ⟨h e sS hb,zje λx hx=>h x (by simp [hx])⟩
theorem zo9:∀ {l:List Edge} {i:Nat},i∈onL l->∃ e∈l,Region.binds .any e=true/\e.on=i
 | [],_,h=>by simp [onL] at h
 | e :: l,i,h=>by
   simp only [onL] at h;cases hb:Region.binds .any e
   . rw [hb] at h;obtain ⟨x,hx,h2⟩:=zo9 (l:=l) h;exact ⟨x,by simp [hx],h2⟩
   rw [hb] at h;simp only [cond_true,qaa] at h;rcases h with rfl | h
   . exact ⟨e,sS,hb,rfl⟩
   obtain ⟨x,hx,h2⟩:=zo9 (l:=l) h;exact ⟨x,by simp [hx],h2⟩
theorem zsW {ol:List Oper}:∀ {l:List Edge} {p:Nat×Nat},p∈onD ol l->p.2=znC ol p.1/\∃ e∈l,Region.binds .any e=true/\e.on=p.1
 | [],_,h=>by simp [onD] at h
 | e :: l,p,h=>by
   simp only [onD] at h;cases hb:Region.binds .any e
   . rw [hb] at h;obtain ⟨h0,x,hx,h2⟩:=zsW (l:=l) h;exact ⟨h0,x,by simp [hx],h2⟩
   rw [hb] at h;simp only [cond_true,qaa] at h;rcases h with rfl | h
   . exact ⟨rfl,e,sS,hb,rfl⟩
   obtain ⟨h0,x,hx,h2⟩:=zsW (l:=l) h;exact ⟨h0,x,by simp [hx],h2⟩
theorem zqH {ol:List Oper}:∀ {l:List Oper} {k i:Nat} {p:Nat×Nat},p∈zsO (zis ol k l) i->p.2=znC ol p.1/\∃ o,l[i]?=some o/\(p.1=k+i\/∃ e∈o.after.toList,Region.binds .any e=true/\e.on=p.1)
 | [],_,_,_,h=>by simp [zis,zsO,nth] at h
 | o :: l,k,0,p,h=>by
   simp only [zis,zsO,nth,qaa] at h;rcases h with rfl | h
   . exact ⟨rfl,o,rfl,.inl rfl⟩
   obtain ⟨h0,h1⟩:=zsW h;exact ⟨h0,o,rfl,.inr h1⟩
 | o :: l,k,i+1,p,h=>by
   have h':p∈zsO (zis ol (k+1) l) i:=h;obtain ⟨h0,o',ho,h1⟩:=zqH h';exact ⟨h0,o',by simpa using ho,h1.imp (λe=>oo) id⟩
theorem zt9 {ol:List Oper} (hn:(zlO ol).Nodup):∀ {i j:Nat} {x y:Oper} {d:Nat},ol[i]?=some x->ol[j]?=some y->x.dst=some d->y.dst=some d->i=j:=by
 induction ol with
 | nil=>intro i j x y d hi;simp at hi
 | cons z l ih=>
   intro i j x y d hi hj hx hy;have g0:∀ {k:Nat} {o:Oper},l[k]?=some o->o.dst=some d->d∈zlO l:=λhk ho=>qb7.2 ⟨_,List.mem_of_getElem? hk,ho⟩
   have g1:(zlO l).Nodup:=by
     unfold zlO at hn ⊢;rw [List.filterMap_cons] at hn;split at hn
     . exact hn
     exact (qaP.1 hn).2
   have hz:z.dst=some d->d∉zlO l:=λhz=>by
     unfold zlO at hn ⊢;rw [List.filterMap_cons,hz] at hn;exact (qaP.1 hn).1
   cases i with
   | zero=>
     simp only [List.getElem?_cons_zero,qao] at hi;subst hi;cases j with
     | zero=>rfl
     | succ j=>exact absurd (g0 (by simpa using hj) hy) (hz hx)
   | succ i=>
     cases j with
     | zero=>
       simp only [List.getElem?_cons_zero,qao] at hj;subst hj;exact absurd (g0 (by simpa using hi) hx) (hz hy)
     | succ j=>exact qax (·+1) (ih g1 (i:=i) (j:=j) (by simpa using hi) (by simpa using hj) hx hy)
def zhS {s u:Env} (h:∀ t,zbA m t=false->u t=s t):mix m s u=u:=by
 funext t;unfold mix;cases ht:zbA m t
 . exact (h t ht).symm
 rfl
def zgL:j∈(List.range n).drop p↔p<=j/\j<n:=by
 rw [List.mem_drop_iff_getElem];constructor
 . rintro ⟨_,hi,he⟩;simp at he hi;omega
 rintro ⟨_,_⟩;exact ⟨j-p,by simp;omega,by simp;omega⟩
structure PInv (ops:Array Oper) (p m:Nat) (Q:ParQ) (s0:Env) (w0:wD) (c:List Nat) (listed:Array Bool) (s:Env) (T:Nat->Nat×Nat) (w:wD):Prop where
 nodup:(c++(List.range ops.size).drop p).Nodup
 mem:∀ j,j∈c++(List.range ops.size).drop p↔listed.getD j true=false
 lt:∀ j∈c,j<p
 sorted:c.Pairwise (· < ·)
 closed:Closed ops listed
 top:Top ops listed (c++(List.range ops.size).drop p)
 ext:Ext w0 w
 env:∀ t,zbA m t=false->s t=s0 t
 t1:∀ j,j<p->listed.getD j false=true->w0.heap.size<=(T j).1/\(T j).1<=(T j).2/\(T j).2<=w.heap.size
 t2:∀ i j,i<p->j<p->listed.getD i false=true->listed.getD j false=true->i≠j->(T i).2<=(T j).1\/(T j).2<=(T i).1
 q:∀ j,j<p->listed.getD j false=true->Q j s T w
section
variable {ops:Array Oper} {p m:Nat} {Q:ParQ} {s0 s:Env} {w0 w w':wD} {c c1 c2:List Nat} {listed:Array Bool} {T:Nat->Nat×Nat} {y dy:Nat} {oy:Oper} {v:vL}
def PInv.edge (h:PInv ops p m Q s0 w0 c listed s T w) (g0:∀ e∈oy.after,Region.binds .any e=true->listed.getD e.on false=true) :
   ∀ e∈oy.after.toList,Region.binds .any e=true->e.on<p/\listed.getD e.on false=true:=λe he hb=>by
 have hle:=g0 e (by simpa using he) hb
 have hlt':e.on<ops.size:=by
   rcases qay e.on listed.size with h' | h'
   . rw [h.closed.size] at h';exact h'
   simp [Array.getElem?_eq_none h'] at hle
 refine ⟨?_,hle⟩;rcases qay e.on p with h' | h'
 . exact h'
 exfalso;have h2:=(h.mem e.on).1 (qba _ (zgL.2 ⟨h',hlt'⟩));have h3:e.on<listed.size:=by rw [h.closed.size];exact hlt'
 simp [h3] at hle h2;rw [hle] at h2;cases h2
def PInv.ready (h:PInv ops p m Q s0 w0 c listed s T w) {P:pG} {ext:Xt} (hs:zgH P ext ops.toList m s0 w0 Q 0 (ops.toList.take p)) (hp:zo8 ops m p=true)
   (g5:y<p) (g3:ops[y]?=some oy) (g0:∀ e∈oy.after,Region.binds .any e=true->listed.getD e.on false=true) (gb:oy.dst=some dy) :
   opK P ext oy (ev s) w (λv w2=>Ext w w2/\Q y (upd s dy v) (znB T y (w.heap.size,w2.heap.size)) w2):=by
 have r:=h.edge g0
 have D:∀ i∈onL oy.after.toList,i<p/\listed.getD i false=true:=λi hi=>by
   obtain ⟨e,he,hb,rfl⟩:=zo9 hi;exact r e he hb
 have g1:ops.toList[y]?=some oy:=by simpa using g3
 have g4:(ops.toList.take p)[y]?=some oy:=by rw [List.getElem?_take,qah g5];exact g1
 have C:=zlP hs y oy g4 s T w h.ext ⟨λi hi=>h.t1 i (D i hi).1 (D i hi).2,λi hi j hj g9=>h.t2 i j (D i hi).1 (D j hj).1 (D i hi).2 (D j hj).2 g9⟩
   (zje λe he hb=>h.q e.on (r e he hb).1 (r e he hb).2)
 have g2:znC ops.toList y=dy:=by
   unfold znC;rw [zdW,g3];simp only [qc2,gb]
 rw [zhS h.env] at C;simp only [qa7,g2] at C;exact C
theorem PInv.step (h:PInv ops p m Q s0 w0 (c1++y :: c2) listed s T w) (hp:zo8 ops m p=true)
   (st:∀ i u u' T T' w1 w2,Ext w0 w1->Ext w1 w2->(∀ q∈zsO (zis ops.toList 0 (ops.toList.take p)) i,u' q.2=u q.2/\T' q.1=T q.1)->Q i u T w1->Q i u' T' w2)
   (gh:listed.getD y true=false) (gb:ops[y]?=some oy) (g2:∀ e∈oy.after,Region.binds .any e=true->listed.getD e.on false=true) (gj:oy.dst=some dy)
   (g3:Ext w w') (gC:Q y (upd s dy v) (znB T y (w.heap.size,w'.heap.size)) w') :
   PInv ops p m Q s0 w0 (c1++c2) (listed.setIfInBounds y true) (upd s dy v) (znB T y (w.heap.size,w'.heap.size)) w':=by
 simp only [zo8,qar,qaM] at hp;obtain ⟨⟨⟨⟨⟨⟨_,p2⟩,_⟩,p4⟩,p5⟩,_⟩,_⟩:=hp;have gt:=zgK p2;obtain ⟨g4,hc,gi,gx,U,ht,hx,g5,g9,gy,hQ⟩:=h;have gz:y<ops.size:=(Array.getElem?_eq_some_iff.1 gb).1;have g0:y<listed.size:=by rw [U.size];exact gz
 have g1:ops.toList[y]?=some oy:=by simpa using gb
 have hyp:=gi y sS;rw [qaw,qbz] at g4 hc ht;have D:=g4;rw [qas] at D;have C:∀ j,y≠j->(listed.setIfInBounds y true).getD j false=true->listed.getD j false=true:=λj r hj=>by rwa [getD_set_ne false r] at hj
 have gc:znB T y (w.heap.size,w'.heap.size) y=(w.heap.size,w'.heap.size):=by simp [znB]
 have V:∀ j,j≠y->znB T y (w.heap.size,w'.heap.size) j=T j:=λj hj=>by
   have:Nat.beq j y=false:=by rw [<-qci,Nat.beq_eq];exact hj
   simp [znB,this]
 have gd:dy∈zlO ops.toList:=qb7.2 ⟨oy,List.mem_of_getElem? g1,gj⟩;refine ⟨?_,?_,λj hj=>gi j (by rcases qae.1 hj with h | h<;>simp [h]),gx.sublist (qbT (qb2 y _) c1),⟨by simp [U.size],?_⟩,?_,hx.t g3,λt hm=>?_,?_,?_,?_⟩
 . rw [qaw];exact g4.sublist (qbT (qb2 y _) c1)
 . intro j;rw [qaw];by_cases r:y=j
   . subst r
     have gf:y∉c1++(c2++(List.range ops.size).drop p):=by
       intro hm;rcases qae.1 hm with hm | hm
       . exact D.2.2 y hm y sS rfl
       exact (qaP.1 D.2.1).1 hm
     simp only [gf,false_iff];simp [g0]
   rw [getD_set_ne true r,<-hc j];simp only [qae,qaa];constructor
   . rintro (h | h | h)
     . exact .inl h
     . exact .inr (.inr (.inl h))
     exact .inr (.inr (.inr h))
   rintro (h | h | h | h)
   . exact .inl h
   . exact absurd h.symm r
   . exact .inr (.inl h)
   exact .inr (.inr h)
 . intro j o ho hj e he hb;by_cases r:y=j
   . subst r;rw [gb] at ho;cases ho;exact getD_set_true (g2 e he hb)
   rw [getD_set_ne false r] at hj;exact getD_set_true (U.down j o ho hj e he hb)
 . rw [qaw];exact zo7 ht
 . rw [zcS _ _ (λe=>?_)]
   . exact g5 t hm
   subst e;have:=p4 _ gd;rw [this] at hm;cases hm
 . intro j I hj;by_cases r:j=y
   . rw [r,gc];exact ⟨hx.size,g3.size,qaz _⟩
   rw [V j r];obtain ⟨h1,h2,h3⟩:=g9 j I (C j (λe=>r e.symm) hj);exact ⟨h1,h2,qat h3 g3.size⟩
 . intro i j gl I hi hj gp;by_cases hiy:i=y
   . have r:¬j=y:=λe=>gp (hiy.trans e.symm);rw [hiy,gc,V j r];exact .inr (g9 j I (C j (λe=>r e.symm) hj)).2.2
   by_cases r:j=y
   . rw [r,gc,V i hiy];exact .inl (g9 i gl (C i (λe=>hiy e.symm) hi)).2.2
   rw [V i hiy,V j r];exact gy i j gl I (C i (λe=>hiy e.symm) hi) (C j (λe=>r e.symm) hj) gp
 intro j I hj;by_cases r:j=y
 . rw [r];exact gC
 have gg:=C j (λe=>r e.symm) hj;refine st j s _ T _ w w' hx g3 (λq hq=>?_) (hQ j I gg);obtain ⟨h0,o,ho,h1⟩:=zqH hq
 have gD:ops.toList[j]?=some o:=by
   rw [List.getElem?_take,qah I] at ho;exact ho
 have gq:ops[j]?=some o:=by simpa using gD
 have O:listed.getD q.1 false=true/\q.1<ops.size:=by
   rcases h1 with h1 | ⟨e,he,hb,h1⟩
   . rw [qa7] at h1;rw [h1];exact ⟨gg,(Array.getElem?_eq_some_iff.1 gq).1⟩
   have:=U.down j o gq gg e (by simpa using he) hb;rw [h1] at this;refine ⟨this,?_⟩;rcases qay q.1 listed.size with h' | h'
   . rw [U.size] at h';exact h'
   simp [Array.getElem?_eq_none h'] at this
 have gr:q.1≠y:=λe=>by
   rw [e] at O;have h1:=O.1;simp [g0] at h1 gh;rw [h1] at gh;cases gh
 refine ⟨?_,V q.1 gr⟩;have gs:ops.toList[q.1]?=some ops[q.1]:=by simp [O.2]
 cases hdq:ops[q.1].dst with
 | none=>
   exfalso
   have gE:q.1<p:=by
     rcases h1 with h1 | ⟨e,he,hb,h1⟩
     . omega
     rcases qay q.1 p with h' | h'
     . exact h'
     exfalso;have h2:=(hc q.1).1 (qba _ (qbS _ (qba _ (zgL.2 ⟨h',O.2⟩))));have h3:q.1<listed.size:=by rw [U.size];exact O.2
     have h4:=O.1;simp [h3] at h4 h2;rw [h4] at h2;cases h2
   have:=p5 ops[q.1] (List.mem_of_getElem? (l:=ops.toList.take p) (i:=q.1) (by rw [List.getElem?_take,qah gE];exact gs));rw [hdq] at this;cases this
 | some d=>
   have gF:q.2=d:=by
     rw [h0];unfold znC;rw [zdW,Array.getElem?_eq_getElem O.2];simp only [qc2,hdq]
   rw [gF];have gG:d≠dy:=λe=>gr (zt9 gt gs g1 hdq (e▸gj));exact zcS _ _ gG
theorem zua {P:pG} {ext:Xt} {K:Env->wD->Prop} (hp:zo8 ops m p=true)
   (st:∀ i u u' T T' w1 w2,Ext w0 w1->Ext w1 w2->(∀ q∈zsO (zis ops.toList 0 (ops.toList.take p)) i,u' q.2=u q.2/\T' q.1=T q.1)->Q i u T w1->Q i u' T' w2)
   (hs:zgH P ext ops.toList m s0 w0 Q 0 (ops.toList.take p))
   (hf:∀ (u:Env) (T:Nat->Nat×Nat) (w1:wD),Ext w0 w1->zo4 (List.range p) w0.heap.size w1.heap.size T->zk0 Q u T w1 0 p->zfm P ext ops.toList 0 K ((List.range ops.toList.length).drop p) (mix m s0 u) w1) :
   ∀ (c:List Nat) (listed:Array Bool) (s:Env) (T:Nat->Nat×Nat) (w:wD),PInv ops p m Q s0 w0 c listed s T w->(∀ i∈c,∃ o,ops[i]?=some o/\zfi o=true) ->
     zfm P ext ops.toList 0 K (c++(List.range ops.size).drop p) s w:=by
 have g4:=hp;simp only [zo8,qar,qaM] at g4;obtain ⟨⟨⟨⟨⟨⟨p1,_⟩,p3⟩,_⟩,p5⟩,_⟩,_⟩:=g4;have hpn:p<=ops.size:=qbC p1;intro c
 induction c with
 | nil=>
   intro listed s T w h _
   have r:∀ j,j<p->listed.getD j false=true:=λj hj=>by
     have h2:¬listed.getD j true=false:=λe=>by
       have:=(h.mem j).2 e;rw [qbE] at this;have:=(zgL.1 this).1;omega
     have h3:j<listed.size:=by rw [h.closed.size];omega
     simp [h3] at h2 ⊢;exact h2
   have hv:=hf s T w h.ext ⟨λi hi=>h.t1 i (qaG.1 hi) (r i (qaG.1 hi)),λi hi j hj gd=>h.t2 i j (qaG.1 hi) (qaG.1 hj) (r i (qaG.1 hi)) (r j (qaG.1 hj)) gd⟩
     (zlQ λi hi=>by rw [qa7];exact h.q i hi (r i hi))
   rw [zhS h.env,show ops.toList.length=ops.size by simp] at hv;exact hv
 | cons y c2 ih=>
   intro listed s T w h g5;obtain ⟨⟨oy,D,C⟩,_⟩:=h.top;obtain ⟨o',g9,gb⟩:=g5 y sS;have:o'=oy:=by rw [D] at g9;cases g9;rfl
   subst this;have gc:=h.lt y sS;have g0:ops.toList[y]?=some o':=by simpa using D
   have gf:(ops.toList.take p)[y]?=some o':=by rw [List.getElem?_take,qah gc];exact g0
   obtain ⟨dy,g2⟩:=qbj.1 (p5 o' (List.mem_of_getElem? gf))
   have gg:o'.guard=none:=by
     have:=p3 o' (List.mem_of_getElem? g0);simpa using this
   have gh:listed.getD y true=false:=(h.mem y).1 sS;have g1:=h.ready hs hp gc D C g2;obtain ⟨v,hv,gi,gj⟩:=(zjb (zhj gb)).1 g1;rw [qbz];unfold zfm;rw [zeb (o:=o') (by rw [zdW];exact D)];refine ⟨true,by unfold gOk;rw [gg],?_⟩;simp only [if_true];unfold opF;have gl:zbA 0 y=false:=by rw [zgn];simp
   rw [gl];refine (zjb (zhj gb)).2 ⟨v,hv,?_⟩;have g3:put s o'.dst v=upd s dy v:=by rw [g2];rfl
   rw [g3];exact ih _ _ _ _ (PInv.step (c1:=[]) h hp st gh D C g2 gi gj) λi hi=>g5 i (by simp [hi])
end
theorem zqI {ops:Array Oper} (p7:∀ k∈List.range ops.size,∀ i∈List.range k,zGZ ops (zA0 ops.toList) p i k=true) {c:List Nat} (g9:∀ j∈c,j<p) (g5:c.Pairwise (· < ·)) (C:∀ i∈c,∃ o,ops[i]?=some o/\zfi o=true) :
   ziu ops (zA0 ops.toList) 0 (c++(List.range ops.size).drop p)=true:=by
 have g0:(c++(List.range ops.size).drop p).Pairwise (· < ·):=by
   rw [qcf];exact ⟨g5,qc7 (List.drop_sublist _ _) qcw,λi hi j hj=>by have:=g9 i hi;have:=(zgL.1 hj).1;omega⟩
 have g2:∀ j∈c++(List.range ops.size).drop p,j<ops.size:=λj hj=>by
   rcases qae.1 hj with h | h
   . obtain ⟨o,ho,_⟩:=C j h;exact (Array.getElem?_eq_some_iff.1 ho).1
   exact (zgL.1 h).2
 have g1:∀ i∈c++(List.range ops.size).drop p,∀ j∈c++(List.range ops.size).drop p,i<j->zxC ops (zA0 ops.toList) 0 i j=true:=by
   intro i hi j hj gb;have hA:=p7 j (qaG.2 (g2 j hj)) i (qaG.2 gb);have h0:zbA 0 i=false:=by rw [zgn];simp
   unfold zGZ at hA;unfold zxC;rw [qaR] at hA ⊢;refine hA.imp id λhA=>?_;cases hoi:nth ops.toList i with
   | none=>simp [hoi] at hA
   | some oi=>
     cases hoj:nth ops.toList j with
     | none=>simp [hoi,hoj] at hA
     | some oj=>
       simp only [hoi,hoj] at hA ⊢;cases hb:Nat.ble p j with
       | true=>
         simp only [hb,cond_true,qar] at hA;simp [zhj hA.2.1,h0,hA.2.1,hA.2.2]
       | false=>
         have gc:j<p:=by
           rcases qay j p with h | h
           . exact h
           rw [qc8 h] at hb;cases hb
         have mem:∀ q∈c++(List.range ops.size).drop p,q<p->q∈c:=λq hq _=>by
           rcases qae.1 hq with h | h
           . exact h
           have:=(zgL.1 h).1;omega
         obtain ⟨_,gd,g3⟩:=C i (mem i hi oo);obtain ⟨_,gf,g4⟩:=C j (mem j hj gc);rw [zdW,gd] at hoi;rw [zdW,gf] at hoj;cases hoi;cases hoj;simp only [hb,cond_false,g3,g4,qdf,Bool.not_true,qde] at hA;simp [zhj g3,zhj g4,h0,hA]
 generalize c++(List.range ops.size).drop p=l at g0 g1;clear g2
 induction l with
 | nil=>rfl
 | cons x r ih=>
   rw [qaZ] at g0;simp only [ziu,qar,qaM];exact ⟨λj hj=>g1 x sS j (by simp [hj]) (g0.1 j hj),ih g0.2 λi hi j hj=>g1 i (by simp [hi]) j (by simp [hj])⟩
section
variable {P:pG} {ext:Xt} {N n:Nat} (hE:∀ f,f<N->ext.l.elem f=false->zea P f=true)
include hE
theorem zxD {ops:Array Oper} {m p:Nat} {K:Env->wD->Prop} {QQ:Exit->Act->wD->Prop} (g9:zsT ext.l N n ops.toList=true) (hp:zo8 ops m p=true)
   {a0:Act} {w0:wD} {Q:ParQ} (st:∀ i u u' T T' w1 w2,Ext w0 w1->Ext w1 w2->(∀ q∈zsO (zis ops.toList 0 (ops.toList.take p)) i,u' q.2=u q.2/\T' q.1=T q.1)->Q i u T w1->Q i u' T' w2) (hs:zgH P ext ops.toList m (zbP a0) w0 Q 0 (ops.toList.take p))
   (hf:∀ (u:Env) (T:Nat->Nat×Nat) (w1:wD),Ext w0 w1->zo4 (List.range p) w0.heap.size w1.heap.size T->zk0 Q u T w1 0 p->zfm P ext ops.toList 0 K ((List.range ops.toList.length).drop p) (mix m (zbP a0) u) w1)
   (hq:∀ a' w',Kept n (zlO ops.toList) a0 a'->K (zbP a') w'->QQ .normal a' w') :
   ∀ (k:Nat) (c:List Nat) (listed:Array Bool) (a:Act) (w:wD) (T:Nat->Nat×Nat),c.length=k->PInv ops p m Q (zbP a0) w0 c listed (zbP a) T w->a.tmps.size=n->Kept n (zlO ops.toList) a0 a ->
     wpAny P .any ops QQ (k+((List.range ops.size).drop p).length) listed a w:=by
 have gf:=hp;simp only [zo8,qar,qaM] at gf;obtain ⟨⟨⟨⟨⟨⟨p1,_⟩,p3⟩,_⟩,p5⟩,_⟩,p7⟩:=gf;have hpn:p<=ops.size:=qbC p1;intro k
 induction k with
 | zero=>
   intro c listed a w T hl h hn hk;have g5:c=[]:=qan hl;subst g5;have hv:=zua (P:=P) (ext:=ext) hp st hs hf [] listed (zbP a) T w h sS;refine zkc hE g9 _ _ listed a w sS h.nodup h.mem h.closed h.top ?_ hn hv λa' w' I hh=>hq a' w' (hk.trans I (λ_ h=>h) (λ_ h=>h)) hh;exact zqI p7 (c:=[]) sS sS sS
 | succ k ih=>
   intro c listed a w T hl h hn hk;by_cases hall:∀ i∈c,∃ o,ops[i]?=some o/\zfi o=true
   . have hv:=zua (P:=P) (ext:=ext) hp st hs hf c listed (zbP a) T w h hall;refine zkc hE g9 _ _ listed a w (by simp [hl]) h.nodup h.mem h.closed h.top ?_ hn hv λa' w' I hh=>hq a' w' (hk.trans I (λ_ h=>h) (λ_ h=>h)) hh;exact zqI p7 h.lt h.sorted hall
   rw [show k+1+((List.range ops.size).drop p).length=(k+((List.range ops.size).drop p).length)+1 by omega];refine ⟨λg0=>?_,λy hy=>?_⟩
   . cases c with
     | nil=>simp at hl
     | cons i r=>
       obtain ⟨⟨o,ho,hd⟩,_⟩:=h.top;have:i∈Region.ready .any ops listed:=mem_ready.2 ⟨(h.mem i).1 sS,o,ho,hd⟩;rw [g0] at this;cases this
   obtain ⟨gg,oy,D,C⟩:=mem_ready.1 hy;have gi:y∈c++(List.range ops.size).drop p:=(h.mem y).2 gg;have g1:ops.toList[y]?=some oy:=by simpa using D
   have gj:y<ops.size:=(Array.getElem?_eq_some_iff.1 D).1
   have gh:y∈c:=by
     rcases qae.1 gi with h1 | h1
     . exact h1
     exfalso;refine hall λi hi=>?_;have hip:=h.lt i hi;have g4:=(zgL.1 h1).1;have hA:=p7 y (qaG.2 gj) i (qaG.2 oo);unfold zGZ at hA;rw [qaR] at hA;rcases hA with hA | hA
     . exfalso;rw [zgn] at hA;have h1:=znY h.closed y oy D C i hA;have h2:=(h.mem i).1 (qaS _ hi);rcases qay i listed.size with h' | h'
       . simp [h'] at h1 h2;rw [h1] at h2;cases h2
       simp [Array.getElem?_eq_none h'] at h1
     have hb:Nat.ble p y=true:=qc8 g4;cases hoi:nth ops.toList i with
     | none=>simp [hoi] at hA
     | some oi=>
       rw [hoi,zdW,D] at hA;simp only [hb,cond_true,qar] at hA;have g2:=hoi;rw [zdW] at g2;exact ⟨oi,g2,hA.2.1⟩
   have g4:=h.lt y gh;obtain ⟨c1,c2,rfl⟩:=qcq gh;have gb:nth ops.toList y=some oy:=by rw [zdW];exact D
   have gl:oy.guard=none:=by
     have:=p3 oy (List.mem_of_getElem? g1);simpa using this
   have gp:(ops.toList.take p)[y]?=some oy:=by rw [List.getElem?_take,qah g4];exact g1
   obtain ⟨dy,gc⟩:=qbj.1 (p5 oy (List.mem_of_getElem? gp));have g3:=h.ready hs hp g4 D C gc
   have h':zgl P ext ops.toList 0 y (zbP a) w (λs' w'=>∃ v,s'=put (zbP a) oy.dst v/\Ext w w'/\Q y (upd (zbP a) dy v) (znB T y (w.heap.size,w'.heap.size)) w'):=by
     rw [zeb gb];refine ⟨true,by unfold gOk;rw [gl],?_⟩;simp only [if_true];unfold opF;have:zbA 0 y=false:=by rw [zgn];simp
     rw [this];exact zja (λv w' hh=>⟨v,rfl,hh.1,hh.2⟩) g3
   refine zgJ hE g9 hn h' λa' w' I ⟨v,hv,gq,gr⟩=>ih (c1++c2) (listed.setIfInBounds y true) a' w' (znB T y (w.heap.size,w'.heap.size)) (by simp at hl ⊢;omega) ?_ I.size (hk.trans I (λ_ h=>h) (λ_ h=>h));have gd:zbP a'=upd (zbP a) dy v:=by rw [hv,gc];rfl
   rw [gd];exact h.step hp st gg D C gc gq gr
end
def znZ (ops:Array Oper) (m:Nat):Bool:=
 znX (zlO ops.toList)&&(ops.toList.all λo=>o.guard.isNone)&&((zlO ops.toList).all λt=>zbA m t)&&zFF ops.toList [] (List.range ops.size)
theorem zk1 {P:pG} {ext:Xt} {m:Nat} {s:Env} {w:wD} {B:wD->Prop} {R:Nat->wD->wD->Prop} {Q:ParQ}:∀ {l:List Oper} {k:Nat},zgm P ext m s w B R Q k l ->
   ∀ i o,l[i]?=some o->∀ (u:Env) (T:Nat->Nat×Nat) (w1:wD),B w1->w.heap.size<=w1.heap.size->zo4 (onL o.after.toList) w.heap.size w1.heap.size T->zi8 Q u T w1 o.after.toList ->
     opK P ext o (ev (mix m s u)) w1 (λv w2=>R (k+i) w1 w2/\Q (k+i) (put u o.dst v) (znB T (k+i) (w1.heap.size,w2.heap.size)) w2)
 | [],_,_,i,o,ho=>by simp at ho
 | x :: l,k,h,0,o,ho=>by
   simp only [List.getElem?_cons_zero,qao] at ho;subst ho;exact h.1
 | x :: l,k,h,i+1,o,ho=>by
   have:=zk1 h.2 i o (by simpa using ho);rwa [show k+(i+1)=k+1+i by omega]
theorem zn0 {ol:List Oper} {p:Nat×Nat} (h:p∈zqE ol j):p.1=j/\∃ o,ol[j]?=some o/\o.dst=some p.2:=by
 unfold zqE at h;rw [zit] at h;cases ho:ol[j]? with
 | none=>simp [ho] at h
 | some o=>
   cases hd:o.dst with
   | none=>simp [ho,hd] at h
   | some d=>
     simp [ho,hd] at h;subst h;exact ⟨rfl,o,rfl,hd⟩
theorem zpa {ol:List Oper}:∀ {l:List Edge} {p:Nat×Nat},p∈zD6 ol l->(∃ o,ol[p.1]?=some o/\o.dst=some p.2)/\∃ e∈l,Region.binds .any e=true/\e.on=p.1
 | [],_,h=>by simp [zD6] at h
 | e :: l,p,h=>by
   simp only [zD6] at h;cases hb:Region.binds .any e
   . rw [hb] at h;obtain ⟨h0,x,hx,h2⟩:=zpa (l:=l) h;exact ⟨h0,x,by simp [hx],h2⟩
   rw [hb] at h;simp only [cond_true,qae] at h;rcases h with h | h
   . obtain ⟨h1,h2⟩:=zn0 h;exact ⟨by rw [h1];exact h2,e,sS,hb,h1.symm⟩
   obtain ⟨h0,x,hx,h2⟩:=zpa (l:=l) h;exact ⟨h0,x,by simp [hx],h2⟩
theorem zub {ol:List Oper}:∀ {l:List Oper} {k i:Nat} {p:Nat×Nat},p∈zsO (zo5 ol k l) i->(∃ o,ol[p.1]?=some o/\o.dst=some p.2)/\∃ o,l[i]?=some o/\(p.1=k+i\/∃ e∈o.after.toList,Region.binds .any e=true/\e.on=p.1)
 | [],_,_,_,h=>by simp [zo5,zsO,nth] at h
 | o :: l,k,0,p,h=>by
   simp only [zo5,zsO,nth,qae] at h;rcases h with h | h
   . obtain ⟨h1,h2⟩:=zn0 h;exact ⟨by rw [h1];exact h2,o,rfl,.inl h1⟩
   obtain ⟨h0,h1⟩:=zpa h;exact ⟨h0,o,rfl,.inr h1⟩
 | o :: l,k,i+1,p,h=>by
   have h':p∈zsO (zo5 ol (k+1) l) i:=h;obtain ⟨h0,o',ho,h1⟩:=zub h';exact ⟨h0,o',by simpa using ho,h1.imp (λe=>oo) id⟩
structure GInv (ops:Array Oper) (m:Nat) (B:wD->Prop) (Q:ParQ) (s0:Env) (w0:wD) (c:List Nat) (listed:Array Bool) (s:Env) (T:Nat->Nat×Nat) (w:wD):Prop where
 nodup:c.Nodup
 mem:∀ j,j∈c↔listed.getD j true=false
 closed:Closed ops listed
 top:Top ops listed c
 base:B w
 sz:w0.heap.size<=w.heap.size
 env:∀ t,zbA m t=false->s t=s0 t
 t1:∀ j,listed.getD j false=true->w0.heap.size<=(T j).1/\(T j).1<=(T j).2/\(T j).2<=w.heap.size
 t2:∀ i j,listed.getD i false=true->listed.getD j false=true->i≠j->(T i).2<=(T j).1\/(T j).2<=(T i).1
 q:∀ j,listed.getD j false=true->Q j s T w
section
variable {ops:Array Oper} {m:Nat} {B:wD->Prop} {R:Nat->wD->wD->Prop} {Q:ParQ} {s0 s:Env} {w0 w w':wD} {c c1 c2:List Nat} {listed:Array Bool} {T:Nat->Nat×Nat} {y:Nat} {oy:Oper} {v:vL}
def GInv.ready (h:GInv ops m B Q s0 w0 c listed s T w) {P:pG} {ext:Xt} (hs:zgm P ext m s0 w0 B R Q 0 ops.toList)
   (g1:ops[y]?=some oy) (C:∀ e∈oy.after,Region.binds .any e=true->listed.getD e.on false=true) :
   opK P ext oy (ev s) w (λv w2=>R y w w2/\Q y (put s oy.dst v) (znB T y (w.heap.size,w2.heap.size)) w2):=by
 have g0:∀ i∈onL oy.after.toList,listed.getD i false=true:=λi hi=>by
   obtain ⟨e,he,hb,rfl⟩:=zo9 hi;exact C e (by simpa using he) hb
 have r:=zk1 hs y oy (by simpa using g1) s T w h.base h.sz ⟨λi hi=>h.t1 i (g0 i hi),λi hi j hj g2=>h.t2 i j (g0 i hi) (g0 j hj) g2⟩
   (zje λe he hb=>h.q e.on (C e (by simpa using he) hb))
 rw [zhS h.env] at r;simp only [qa7] at r;exact r
theorem GInv.step (h:GInv ops m B Q s0 w0 (c1++y :: c2) listed s T w) (hp:znZ ops m=true)
   (bs:∀ j w1 w2,B w1->R j w1 w2->B w2) (sz:∀ j w1 w2,R j w1 w2->w1.heap.size<=w2.heap.size)
   (st:∀ i j u u' T T' w1 w2,i≠j->B w1->R j w1 w2->(∀ q∈zsO (zo5 ops.toList 0 ops.toList) i,u' q.2=u q.2/\T' q.1=T q.1)->Q i u T w1->Q i u' T' w2)
   (gg:listed.getD y true=false) (g9:ops[y]?=some oy) (g3:∀ e∈oy.after,Region.binds .any e=true->listed.getD e.on false=true)
   (hR:R y w w') (gs:Q y (put s oy.dst v) (znB T y (w.heap.size,w'.heap.size)) w') :
   GInv ops m B Q s0 w0 (c1++c2) (listed.setIfInBounds y true) (put s oy.dst v) (znB T y (w.heap.size,w'.heap.size)) w':=by
 simp only [znZ,qar,qaM] at hp;obtain ⟨⟨⟨p2,_⟩,p4⟩,_⟩:=hp;have gp:=zgK p2;obtain ⟨gh,hc,g4,ht,hB,gi,g0,g5,gq,hQ⟩:=h;have gr:y<ops.size:=(Array.getElem?_eq_some_iff.1 g9).1;have g1:y<listed.size:=by rw [g4.size];exact gr
 have g2:ops.toList[y]?=some oy:=by simpa using g9
 have D:=gh;rw [qas] at D;have C:∀ j,y≠j->(listed.setIfInBounds y true).getD j false=true->listed.getD j false=true:=λj r hj=>by rwa [getD_set_ne false r] at hj
 have gb:znB T y (w.heap.size,w'.heap.size) y=(w.heap.size,w'.heap.size):=by simp [znB]
 have O:∀ j,j≠y->znB T y (w.heap.size,w'.heap.size) j=T j:=λj hj=>by
   have:Nat.beq j y=false:=by rw [<-qci,Nat.beq_eq];exact hj
   simp [znB,this]
 have I:=sz y w w' hR;refine ⟨?_,?_,⟨by simp [g4.size],?_⟩,zo7 ht,bs y w w' hB hR,qat gi I,λt hm=>?_,?_,?_,?_⟩
 . exact gh.sublist (qbT (qb2 y _) c1)
 . intro j;by_cases r:y=j
   . subst r
     have gc:y∉c1++c2:=by
       intro hm;rcases qae.1 hm with hm | hm
       . exact D.2.2 y hm y sS rfl
       exact (qaP.1 D.2.1).1 hm
     simp only [gc,false_iff];simp [g1]
   rw [getD_set_ne true r,<-hc j];simp only [qae,qaa];constructor
   . rintro (h | h)
     . exact .inl h
     exact .inr (.inr h)
   rintro (h | h | h)
   . exact .inl h
   . exact absurd h.symm r
   exact .inr h
 . intro j o ho hj e he hb;by_cases r:y=j
   . subst r;rw [g9] at ho;cases ho;exact getD_set_true (g3 e he hb)
   rw [getD_set_ne false r] at hj;exact getD_set_true (g4.down j o ho hj e he hb)
 . cases hdy:oy.dst with
   | none=>exact g0 t hm
   | some dy=>
     show upd s dy v t=s0 t;rw [zcS _ _ (λe=>?_)]
     . exact g0 t hm
     subst e;have:=p4 _ (qb7.2 ⟨oy,List.mem_of_getElem? g2,hdy⟩);rw [this] at hm;cases hm
 . intro j hj;by_cases r:j=y
   . rw [r,gb];exact ⟨gi,I,qaz _⟩
   rw [O j r];obtain ⟨h1,h2,h3⟩:=g5 j (C j (λe=>r e.symm) hj);exact ⟨h1,h2,qat h3 I⟩
 . intro i j hi hj gj;by_cases hiy:i=y
   . have r:¬j=y:=λe=>gj (hiy.trans e.symm);rw [hiy,gb,O j r];exact .inr (g5 j (C j (λe=>r e.symm) hj)).2.2
   by_cases r:j=y
   . rw [r,gb,O i hiy];exact .inl (g5 i (C i (λe=>hiy e.symm) hi)).2.2
   rw [O i hiy,O j r];exact gq i j (C i (λe=>hiy e.symm) hi) (C j (λe=>r e.symm) hj) gj
 intro j hj;by_cases r:j=y
 . rw [r];exact gs
 have gd:=C j (λe=>r e.symm) hj;refine st j y s _ T _ w w' r hB hR (λq hq=>?_) (hQ j gd);obtain ⟨⟨_,gt,gx⟩,o,ho,h1⟩:=zub hq;have gy:ops[j]?=some o:=by simpa using ho
 have gf:listed.getD q.1 false=true:=by
   rcases h1 with h1 | ⟨e,he,hb,h1⟩
   . rw [qa7] at h1;rw [h1];exact gd
   have:=g4.down j o gy gd e (by simpa using he) hb;rw [h1] at this;exact this
 have gl:q.1≠y:=λe=>by
   rw [e] at gf;simp [g1] at gf gg;rw [gf] at gg;cases gg
 refine ⟨?_,O q.1 gl⟩;cases hdy:oy.dst with
 | none=>rfl
 | some dy=>
   show upd s dy v q.2=s q.2;exact zcS _ _ λe=>gl (zt9 gp gt g2 gx (e▸hdy))
end
section
variable {P:pG} {ext:Xt} {N n:Nat} (hE:∀ f,f<N->ext.l.elem f=false->zea P f=true)
include hE
theorem zvW {ops:Array Oper} {m:Nat} {K:Env->wD->Prop} {QQ:Exit->Act->wD->Prop} (gh:zsT ext.l N n ops.toList=true) (hp:znZ ops m=true)
   {a0:Act} {w0:wD} {B:wD->Prop} {R:Nat->wD->wD->Prop} {Q:ParQ} (bs:∀ j w1 w2,B w1->R j w1 w2->B w2) (sz:∀ j w1 w2,R j w1 w2->w1.heap.size<=w2.heap.size)
   (st:∀ i j u u' T T' w1 w2,i≠j->B w1->R j w1 w2->(∀ q∈zsO (zo5 ops.toList 0 ops.toList) i,u' q.2=u q.2/\T' q.1=T q.1)->Q i u T w1->Q i u' T' w2) (hs:zgm P ext m (zbP a0) w0 B R Q 0 ops.toList)
   (hf:∀ (u:Env) (T:Nat->Nat×Nat) (w1:wD),B w1->w0.heap.size<=w1.heap.size->zo4 (List.range ops.toList.length) w0.heap.size w1.heap.size T->zk0 Q u T w1 0 ops.toList.length->K (mix m (zbP a0) u) w1)
   (hq:∀ a' w',Kept n (zlO ops.toList) a0 a'->K (zbP a') w'->QQ .normal a' w') :
   ∀ (k:Nat) (c:List Nat) (listed:Array Bool) (a:Act) (w:wD) (T:Nat->Nat×Nat),c.length=k->GInv ops m B Q (zbP a0) w0 c listed (zbP a) T w->a.tmps.size=n->Kept n (zlO ops.toList) a0 a ->
     wpAny P .any ops QQ k listed a w:=by
 have g9:=hp;simp only [znZ,qar,qaM] at g9;obtain ⟨⟨⟨_,p3⟩,_⟩,_⟩:=g9;intro k
 induction k with
 | zero=>
   intro c listed a w T hl h hn hk;have g3:c=[]:=qan hl;subst g3
   have C:∀ j,j<ops.size->listed.getD j false=true:=λj hj=>by
     have h2:¬listed.getD j true=false:=λe=>by simpa using (h.mem j).2 e
     have h3:j<listed.size:=by rw [h.closed.size];omega
     simp [h3] at h2 ⊢;exact h2
   have hv:=hf (zbP a) T w h.base h.sz ⟨λi hi=>h.t1 i (C i (by simpa using hi)),λi hi j hj gd=>h.t2 i j (C i (by simpa using hi)) (C j (by simpa using hj)) gd⟩
     (zlQ λi hi=>by rw [qa7];exact h.q i (C i (by simpa using hi)))
   rw [zhS h.env] at hv;refine ⟨?_,hq a w hk hv⟩;rw [qbJ];intro j hj;exact absurd ((h.mem j).2 (mem_ready.1 hj).1) sS
 | succ k ih=>
   intro c listed a w T hl h hn hk;refine ⟨λg0=>?_,λy hy=>?_⟩
   . cases c with
     | nil=>simp at hl
     | cons i r=>
       obtain ⟨⟨o,ho,hd⟩,_⟩:=h.top;have:i∈Region.ready .any ops listed:=mem_ready.2 ⟨(h.mem i).1 sS,o,ho,hd⟩;rw [g0] at this;cases this
   obtain ⟨gb,oy,g2,D⟩:=mem_ready.1 hy;have gf:y∈c:=(h.mem y).2 gb;have g4:ops.toList[y]?=some oy:=by simpa using g2
   obtain ⟨c1,c2,rfl⟩:=qcq gf;have g5:nth ops.toList y=some oy:=by rw [zdW];exact g2
   have gg:oy.guard=none:=by
     have:=p3 oy (List.mem_of_getElem? g4);simpa using this
   have g1:=h.ready hs g2 D
   have h':zgl P ext ops.toList 0 y (zbP a) w (λs' w'=>∃ v,s'=put (zbP a) oy.dst v/\R y w w'/\Q y (put (zbP a) oy.dst v) (znB T y (w.heap.size,w'.heap.size)) w'):=by
     rw [zeb g5];refine ⟨true,by unfold gOk;rw [gg],?_⟩;simp only [if_true];unfold opF;have:zbA 0 y=false:=by rw [zgn];simp
     rw [this];exact zja (λv w' hh=>⟨v,rfl,hh.1,hh.2⟩) g1
   refine zgJ hE gh hn h' λa' w' gc ⟨v,hv,hR,gi⟩=>ih (c1++c2) (listed.setIfInBounds y true) a' w' (znB T y (w.heap.size,w'.heap.size)) (by simp at hl ⊢;omega) ?_ gc.size (hk.trans gc (λ_ h=>h) (λ_ h=>h));rw [hv];exact h.step hp bs sz st gb g2 D hR gi
end
def wrs:Code->List Nat
 | .region _ ops _=>zlO ops.toList
 | .seq a b=>wrs a++wrs b
 | .cond _ a b=>wrs a++wrs b
 | .block _ c=>wrs c
 | .loop c=>wrs c
 | _=>[]
def okC (g:Cfg) (N n:Nat):Code->Bool
 | .skip=>true
 | .region id ops d=>zsT g.ext N n ops.toList&&(bif d then (match find g.gpars id with | some m=>znZ ops m | none=>match find g.pars id with | some (m,p)=>zo8 ops m p | none=>match find g.draws id with | some (l,fl)=>zCD ops l fl | none=>true) else true)
 | .seq a b=>okC g N n a&&okC g N n b&&(match (zaH b).bind (find g.joins) with | some (m,_)=>(wrs a).all λt=>zbA m t | none=>true)
 | .cond _ a b=>okC g N n a&&okC g N n b
 | .block _ c=>okC g N n c
 | .loop c=>okC g N n c&&(match (zaH c).bind (find g.loops) with | some (m,_)=>(wrs c).all λt=>zbA m t | none=>true)
 | .exit _=>true
 | .ret=>true
 | _=>true
theorem zuc {s:Env} {c:Operand} {b:Bool} (h:ev s c=.bool b):lit s c b=s:=by
 cases c with
 | tmp t=>exact zgI h
 | _=>rfl
def zpb {Q:Exit->Act->wD->Prop} {c:Code} (I:Nat->Act->wD->Prop) (m:Nat) {a:Act} {w:wD} (h₀:I m a w)
   (g0:∀ m a w,I m a w->c.wp P (Exit.then (λa' w'=>∃ m',m'<m/\I m' a' w') Q) a w):(Code.loop c).wp P Q a w:=by
 intro b k cs
 have g1:∀ n a w,I n a w->∃ e a' w',Q e a' w'/\Arrives P (lone (b.at a (.code c :: .inLoop c :: k)) cs w) b k cs e a' w':=by
   intro n
   induction n using Nat.strongRecOn with
   | _ n ih=>
     intro a w hI;obtain ⟨e,a₁,w₁,hq,r⟩:=g0 n a w hI b (.inLoop c :: k) cs;cases e with
     | normal=>
       obtain ⟨m',g2,hI₁⟩:=hq;obtain ⟨e₂,a₂,w₂,hq₂,harr₂⟩:=ih m' g2 a₁ w₁ hI₁;exact ⟨e₂,a₂,w₂,hq₂,.of_steps (Steps.trans r (.one step_inLoop)) harr₂⟩
     | exit id=>exact ⟨_,a₁,w₁,hq,.pass (x:=.inLoop c) rfl (λ_ _=>.inl sS) r⟩
     | goto l=>exact ⟨_,a₁,w₁,hq,.pass (x:=.inLoop c) rfl (λ_ _=>.inl sS) r⟩
     | ret=>exact ⟨_,a₁,w₁,hq,.pass (x:=.inLoop c) rfl (λ_ _=>.inl sS) r⟩
     | panic ch=>exact ⟨_,a₁,w₁,hq,.pass (x:=.inLoop c) rfl (λ_ _=>.inl sS) r⟩
     | outgrown=>exact ⟨_,a₁,w₁,hq,.pass (x:=.inLoop c) rfl (λ_ _=>.inl sS) r⟩
 obtain ⟨e,a',w',hq,r⟩:=g1 m a w h₀;exact ⟨e,a',w',hq,.of_steps (.one step_loop) r⟩
section
variable {P:pG} {g:Cfg} {N n:Nat} (hE:∀ f,f<N->g.ext.elem f=false->zea P f=true) (hm:P.follows .mixedOrders=true)
include hE hm
theorem zA1:∀ (c:Code),okC g N n c=true->∀ (a:Act) (w:wD) (K:Exit->Env->wD->Prop),a.tmps.size=n->vc P g c (zbP a) w K ->
   c.wp P (λe a' w'=>K e (zbP a') w'/\Kept n (wrs c) a a') a w:=by
 intro c
 induction c with
 | skip=>intro _ a w K hn h;exact wp_skip ⟨h,.refl _ hn⟩
 | ret=>intro _ a w K hn h;exact wp_ret ⟨h,.refl _ hn⟩
 | exit id=>intro _ a w K hn h;exact wp_exit ⟨h,.refl _ hn⟩
 | region id ops d=>
   intro r a w K hn h;simp only [okC,qar] at r;cases d with
   | false=>exact wp_region (zsU hE r.1 _ a w hn h λa' w' hk hh=>⟨hh,hk⟩)
   | true=>
     simp only [vc] at h;cases hgd:find g.gpars id with
     | some mm=>
      simp only [hgd] at h;have ho:=r.2;simp only [hgd,cond_true] at ho;obtain ⟨_,_,Q,hb,bs,sz,st,h1,h2⟩:=h;have V:=ho;simp only [znZ,qar,qaM] at V;have O:=V.2;have g0:=zvW (Q:=Q) (QQ:=λe a' w'=>K e (zbP a') w'/\Kept n (zlO ops.toList) a a') hE r.1 ho bs sz st h1 h2 (λa' w' hk hh=>⟨hh,hk⟩) ops.size (List.range ops.size) (Array.replicate ops.size false) a _ (λ_=>(0,0)) sS ⟨?_,?_,⟨sS,?_⟩,?_,hb,lr _,λ_ _=>rfl,?_,?_,?_⟩ hn (.refl _ hn)
      . exact wp_region_any hm g0
      . exact qc3
      . intro j;rw [qaG];by_cases hj:j<ops.size<;>simp [hj]
      . intro j o _ hj;by_cases hj':j<ops.size<;>simp [hj'] at hj
      . exact zjd (seen:=[]) sS (λi hi=>by simp at hi ⊢;omega) O
      . intro j hj;by_cases hj':j<ops.size<;>simp [hj'] at hj
      . intro i _ hj _ _;by_cases hj':i<ops.size<;>simp [hj'] at hj
      intro j hj;by_cases hj':j<ops.size<;>simp [hj'] at hj
     | none=>
     simp only [hgd] at h;cases hpd:find g.pars id with
     | some x=>
      obtain ⟨mm,p⟩:=x;simp only [hpd] at h;have ho:=r.2;simp only [hgd,hpd,cond_true] at ho;obtain ⟨Q,st,h1,h2⟩:=h;have V:=ho;simp only [zo8,qar,qaM] at V;have hpn:p<=ops.size:=qbC V.1.1.1.1.1.1;have O:=V.1.2;have C:(List.range ops.size).take p++(List.range ops.size).drop p=List.range ops.size:=qcC _ _;have U:p+((List.range ops.size).drop p).length=ops.size:=by simp;omega
      have g0:=zxD (Q:=Q) (QQ:=λe a' w'=>K e (zbP a') w'/\Kept n (zlO ops.toList) a a') hE r.1 ho st h1 h2 (λa' w' hk hh=>⟨hh,hk⟩) p ((List.range ops.size).take p) (Array.replicate ops.size false) a _ (λ_=>(0,0)) so ⟨?_,?_,?_,?_,⟨sS,?_⟩,?_,xrf _,λ_ _=>rfl,?_,?_,?_⟩ hn (.refl _ hn)
      . rw [U] at g0;exact wp_region_any hm g0
      . rw [C];exact qc3
      . intro j;rw [C,qaG];by_cases hj:j<ops.size<;>simp [hj]
      . intro j hj;rw [List.mem_take_iff_getElem] at hj;obtain ⟨i,hi,he⟩:=hj;simp at he;omega
      . exact qc7 (qcz _ _) qcw
      . intro j o _ hj;by_cases hj':j<ops.size<;>simp [hj'] at hj
      . rw [C];exact zjd (seen:=[]) sS (λi hi=>by simp at hi ⊢;omega) O
      . intro j _ hj;by_cases hj':j<ops.size<;>simp [hj'] at hj
      . intro i _ _ _ hj _ _;by_cases hj':i<ops.size<;>simp [hj'] at hj
      intro j _ hj;by_cases hj':j<ops.size<;>simp [hj'] at hj
     | none=>
     simp only [hpd] at h;cases hd:find g.draws id with
     | none=>simp [hd] at h
     | some x=>
       obtain ⟨l,fl⟩:=x;simp only [hd] at h;have ho:=r.2;simp only [hgd,hpd,hd,cond_true,zCD,qar,qaM,qaG] at ho;obtain ⟨⟨⟨⟨o1,o2⟩,o3⟩,o4⟩,o5⟩:=ho;have g1:=zgK o1;have D:∀ j,j∈l↔j<ops.size:=λj=>⟨λhj=>qbC (o2 j hj),λhj=>qcU (o3 j hj)⟩
       have U:l.length=ops.size:=by
         have h1:l.Perm (List.range ops.size):=(List.perm_ext_iff_of_nodup g1 qc3).2 λj=>by rw [D,qaG]
         simpa using h1.length_eq
       obtain ⟨xt,g2,h⟩:∃ xt:Xt,xt.l=g.ext/\zfm P xt ops.toList fl (K .normal) l (zbP a) (World.drew1 w):=by
         cases hxs:g.xs.elem id
         . rw [hxs] at h;exact ⟨_,rfl,h⟩
         rw [hxs] at h;obtain ⟨_,h⟩:=h;exact ⟨_,rfl,h⟩
       refine wp_region_any hm (zkc (ext:=xt) (by rw [g2];exact hE) (by rw [g2];exact r.1) ops.size l _ a _ U g1 ?_ ⟨sS,?_⟩ ?_ o5 hn h λa' w' hk hh=>⟨hh,hk⟩)
       . intro j;rw [D];by_cases hj:j<ops.size<;>simp [hj]
       . intro j o _ hj;by_cases hj':j<ops.size<;>simp [hj'] at hj
       exact zjd (seen:=[]) sS (λi hi=>by simpa using (D i).1 hi) o4
 | seq x y ihx ihy=>
   intro r a w K hn h;simp only [okC,qar] at r;obtain ⟨⟨hx,hy⟩,hj⟩:=r;refine wp_seq ?_
   have fin:∀ (e:Exit) (a1 a2:Act) (w2:wD),Kept n (wrs x) a a1->K e (zbP a2) w2/\Kept n (wrs y) a1 a2->K e (zbP a2) w2/\Kept n (wrs (.seq x y)) a a2:=
     λe a1 a2 w2 k1 ⟨h2,k2⟩=>⟨h2,k1.trans k2 (λt ht=>qaS _ ht) (λt ht=>qba _ ht)⟩
   have out:∀ (e:Exit) (a1:Act) (w1:wD),K e (zbP a1) w1->Kept n (wrs x) a a1->K e (zbP a1) w1/\Kept n (wrs (.seq x y)) a a1:=
     λe a1 w1 h1 k1=>⟨h1,k1.trans (.refl [] k1.size) (λt ht=>qaS _ ht) sS⟩
   simp only [vc] at h;cases hjn:(zaH y).bind (find g.joins) with
   | none=>
     simp only [hjn] at h;refine wp_mono (ihx hx a w _ hn h) λe a1 w1 ⟨h1,k1⟩=>?_;cases e with
     | normal=>exact wp_mono (ihy hy a1 w1 K k1.size h1) λe a2 w2 h2=>fin e a1 a2 w2 k1 h2
     | _=>exact out _ _ _ h1 k1
   | some j=>
     obtain ⟨m,L⟩:=j;simp only [hjn] at h hj;obtain ⟨_,hb,hr⟩:=h;refine wp_mono (ihx hx a w _ hn hb) λe a1 w1 ⟨h1,k1⟩=>?_;cases e with
     | normal=>
       have h2:=hr (zbP a1) w1 h1;rw [zhS λt ht=>k1.env t λD=>by rw [qaM.1 hj t D] at ht;cases ht] at h2;exact wp_mono (ihy hy a1 w1 K k1.size h2) λe a2 w2 h2=>fin e a1 a2 w2 k1 h2
     | _=>exact out _ _ _ h1 k1
 | cond c x y ihx ihy=>
   intro r a w K hn h;simp only [okC,qar] at r;simp only [vc,zqF] at h;obtain ⟨b,hb,h⟩:=h;have g3:a.eval c=.bool b:=by rw [<-zt7];exact hb
   refine wp_cond g3 ?_;cases b with
   | true=>
     simp only [if_true] at h ⊢;rw [zuc hb] at h;exact wp_mono (ihx r.1 a w K hn h) λe a' w' ⟨h1,k1⟩=>⟨h1,k1.trans (.refl [] k1.size) (λt ht=>qaS _ ht) sS⟩
   | false=>
     simp only [qa4,if_false] at h ⊢;rw [zuc hb] at h;exact wp_mono (ihy r.2 a w K hn h) λe a' w' ⟨h1,k1⟩=>⟨h1,k1.trans (.refl [] k1.size) (λt ht=>qba _ ht) sS⟩
 | block id c ih=>
   intro r a w K hn h;refine wp_block (wp_mono (ih r a w _ hn h) λe a' w' ⟨h1,k1⟩=>?_);cases e with
   | exit j=>
     simp only [Exit.inBlock,zlN] at h1 ⊢;by_cases hji:j=id
     . subst hji;simp only [Nat.beq_refl,cond_true] at h1;simp only [if_true];exact ⟨h1,k1⟩
     have:Nat.beq j id=false:=by rw [Bool.eq_false_iff];exact λe=>hji (qb9 e)
     rw [this] at h1;simp only [hji,if_false];exact ⟨h1,k1⟩
   | _=>exact ⟨h1,k1⟩
 | loop c ih=>
   intro r a w K hn h;simp only [okC,qar] at r;simp only [vc] at h;cases hl:(zaH c).bind (find g.loops) with
   | none=>simp [hl] at h
   | some x=>
     obtain ⟨m,L⟩:=x;simp only [hl] at h;have hj:=r.2;simp only [hl] at hj;obtain ⟨I,m0,h0,hr⟩:=h;refine zpb (λm a' w'=>I m (L.map (zbP a')) w'/\Kept n (wrs c) a a') m0 ⟨h0,.refl _ hn⟩ ?_;intro m1 a1 w1 ⟨h1,k1⟩;have h2:=hr m1 (zbP a1) w1 h1;rw [zhS λt ht=>k1.env t λD=>by rw [qaM.1 hj t D] at ht;cases ht] at h2;refine wp_mono (ih r.1 a1 w1 _ k1.size h2) λe a2 w2 ⟨h3,k2⟩=>?_;cases e with
     | normal=>
       obtain ⟨m',g4,h4⟩:=h3;exact ⟨m',g4,h4,k1.trans k2 (λ_ h=>h) (λ_ h=>h)⟩
     | _=>exact ⟨h3,k1.trans k2 (λ_ h=>h) (λ_ h=>h)⟩
 | _=>intro _ a w K hn h;exact (show False from h).elim
end
def zud (tmps:Array vL):ResultVar->Sem vL
 | .tmp t=>pure (tmps.getD t undef)
 | .cell a t=>do loadVar t (<-asAddr (tmps.getD a undef))
theorem zpc {P:pG} {a:Act} {w:wD}:∀ (rs:List ResultVar) (k:List vL->Prop),zsP P (zbP a) w rs k ->
   ∃ vs,(rs.mapM (zud a.tmps)).run P w=.ok vs w/\k vs
 | [],k,h=>⟨[],sS,h⟩
 | .tmp t :: r,k,h=>by
   obtain ⟨vs,hr,hk⟩:=zpc r _ h;exact ⟨_,by simp only [qcN,zud,Sem.run_bind,Sem.run_pure,Result.andThen_ok,hr];rfl,hk⟩
 | .cell ad t :: r,k,h=>by
   obtain ⟨v,hv,h⟩:=h;obtain ⟨vs,hr,hk⟩:=zpc r _ h;have hv':=hv w (xrf w);unfold zfA zbP at hv';exact ⟨_,by simp only [qcN];rw [Sem.run_bind,show (zud a.tmps (.cell ad t)).run P w=_ from hv'];simp only [Result.andThen_ok,Sem.run_bind,hr,Sem.run_pure],hk⟩
theorem zlR {fn:Func} {a:Act} {R:vL->wD->Prop} (h:zsP P (zbP a) w fn.results.toList λvs=>R (one vs) w) :
   ∃ v,(results fn a.tmps).run P w=.ok v w/\R v w:=by
 obtain ⟨vs,hr,hk⟩:=zpc _ _ h;refine ⟨one vs,?_,hk⟩
 have he:results fn a.tmps=(do let vs <-fn.results.mapM (zud a.tmps);pure (if h:vs.size=1 then vs[0] else .tuple vs)):=by
   unfold results;congr 1
 rw [he,qcO];simp only [Sem.run_bind,map_eq_pure_bind,hr,Result.andThen_ok,Sem.run_pure]
 match vs with
 | []=>rfl
 | [v]=>rfl
 | _ :: _ :: _=>rfl
def okF (g:Cfg) (N:Nat) (fn:Func):Bool:=match fn.body with | some c=>okC g N fn.ntmps c | none=>false
theorem zEc {g:Cfg} (hE:∀ f,f<N->g.ext.elem f=false->zea P f=true) (hm:P.follows .mixedOrders=true)
   {f:FuncId} {fn:Func} {args:List vL} {w:wD} {R:vL->wD->Prop} (hf:P.funcs[f]?=some fn) (hl:args.length<=fn.ntmps) (g0:okF g N fn=true)
   (h:vcF P g fn args w R):CALL P f args w R:=by
 unfold vcF at h;unfold okF at g0;cases hb:fn.body with
 | none=>simp [hb] at h
 | some c=>
   simp only [hb] at h g0;refine ⟨calls_of_wp hf hb ?_⟩
   have g1:zbP { tmps:=args.toArray++Array.replicate (fn.ntmps-args.toArray.size) undef,defers:=[] }=zD5 args:=by
     funext t;unfold zbP zD5;rw [zit];simp only [Array.getD_eq_getD_getElem?,List.size_toArray];rcases qay t args.length with ht | ht
     . rw [Array.getElem?_append_left (by simpa using ht)];simp [ht]
     rw [Array.getElem?_append_right (by simpa using ht)];simp only [List.getElem?_eq_none ht,Array.getElem?_replicate];split<;>rfl
   rw [<-g1] at h;refine wp_mono (zA1 hE hm c g0 _ w _ so h) λe a' _ ⟨h1,k1⟩=>?_;have hd:a'.defers=[]:=k1.defers;cases e with
   | normal=>
     obtain ⟨v,hv,hR⟩:=zlR h1;exact ⟨hd,v,hv,v,rfl,hR⟩
   | ret=>
     obtain ⟨v,hv,hR⟩:=zlR h1;exact ⟨hd,v,hv,v,rfl,hR⟩
   | _=>exact (show False from h1).elim
end Go.Sh
namespace Go.Sh
open Go.RowKit (Below)
def I64 (x:Int):Prop:=-9223372036854775808<=x/\x<=9223372036854775807
theorem io {p:Prop} (h:p:=by unfold I64;omega):p:=h
def zaj:maxLen=9223372036854775807:=rfl
class Rep (α:Type) where
 size:Nat
 agg:Bool
 rep:List Nat->wD->List vL->α->Prop
 pos:0<size
 sz:agg=false->size=1
 len:∀ {F w cs x},rep F w cs x->cs.length=size
 one:∀ {F w cs x},rep F w cs x->∀ v∈cs,v.oneCell'=true
 keep:∀ {F w w' cs x},rep F w cs x->(∀ b∈F,w'.heap[b]?=w.heap[b]?)->rep F w' cs x
 lt:∀ {F w cs x},rep F w cs x->∀ b∈F,b<w.heap.size
open Rep (rep)
def mkv (α:Type) [Rep α] (cs:List vL):vL:=bif Rep.agg α then .agg cs.toArray else cs.headD undef
section
variable {α β:Type} [Rep α] [Rep β]
def Is (w:wD) (v:vL) (x:α):Prop:=∃ F cs,rep F w cs x/\v=mkv α cs
def At (w:wD) (b o:Nat) (x:α):Prop:=∃ F cs,rep F w cs x/\w.rangeAt b o cs
def OwnF (F:List Nat) (w:wD) (v:vL) (x:α):Prop:=∃ cs,rep F w cs x/\v=mkv α cs
def Wr (F:List Nat) (w:wD):Prop:=∀ b∈F,∃ c e,w.heap[b]?=some (.cells c e (0,0))
structure Mine (F:List Nat) (w:wD) (v:vL) (x:α):Prop where
 own:OwnF F w v x
 nodup:F.Nodup
 wr:Wr F w
def Own (lo:Nat) (w:wD) (v:vL) (x:α):Prop:=∃ F,Mine F w v x/\∀ b∈F,lo<=b
def Ext.heap {w w':wD} (h:Ext w w') {b:Nat} (hb:b<w.heap.size):w'.heap[b]?=w.heap[b]?:=h.block b hb
def zcp {F:List Nat} {w w':wD} {cs:List vL} {x:α} (h:rep F w cs x) (hx:Ext w w'):rep F w' cs x:=
 Rep.keep h λb hb=>hx.heap (Rep.lt h b hb)
def zkd {w:wD} {b o:Nat} {cs:List vL} (h:w.rangeAt b o cs) (hc:0<cs.length):b<w.heap.size:=by
 have:=h 0 cs[0] (by simp [hc]);exact World.block_lt_of_cell? w _ this
def zbo {w w':wD} {b o:Nat} {cs:List vL} (h:w.rangeAt b o cs) (hb:w'.heap[b]?=w.heap[b]?):w'.rangeAt b o cs:=
 λj v hv=>by rw [World.cell?_of_block (w:=w) hb];exact h j v hv
def zbQ {w w':wD} {b o:Nat} {cs:List vL} (h:w.rangeAt b o cs) (hx:Ext w w'):w'.rangeAt b o cs:=by
 intro j v hv;have hb:=World.block_lt_of_cell? w _ (h j v hv);rw [World.cell?_of_block (w:=w) (hx.heap hb)];exact h j v hv
def Is.ext {w w':wD} {v:vL} {x:α} (h:Is w v x) (hx:Ext w w'):Is w' v x:=by
 obtain ⟨F,cs,hr,hv⟩:=h;exact ⟨F,cs,zcp hr hx,hv⟩
def At.ext {w w':wD} {b o:Nat} {x:α} (h:At w b o x) (hx:Ext w w'):At w' b o x:=by
 obtain ⟨F,cs,hr,hv⟩:=h;exact ⟨F,cs,zcp hr hx,zbQ hv hx⟩
def OwnF.ext {F:List Nat} {w w':wD} {v:vL} {x:α} (h:OwnF F w v x) (hx:Ext w w'):OwnF F w' v x:=by
 obtain ⟨cs,hr,hv⟩:=h;exact ⟨cs,zcp hr hx,hv⟩
def OwnF.keep {F:List Nat} {w w':wD} {v:vL} {x:α} (h:OwnF F w v x) (hx:∀ b∈F,w'.heap[b]?=w.heap[b]?):OwnF F w' v x:=by
 obtain ⟨cs,hr,hv⟩:=h;exact ⟨cs,Rep.keep hr hx,hv⟩
def OwnF.is {F:List Nat} {w:wD} {v:vL} {x:α} (h:OwnF F w v x):Is w v x:=by
 obtain ⟨cs,hr,hv⟩:=h;exact ⟨F,cs,hr,hv⟩
def OwnF.lt {F:List Nat} {w:wD} {v:vL} {x:α} (h:OwnF F w v x):∀ b∈F,b<w.heap.size:=by
 obtain ⟨_,hr,_⟩:=h;exact Rep.lt hr
def Wr.keep {F:List Nat} {w w':wD} (h:Wr F w) (hk:∀ b∈F,w'.heap[b]?=w.heap[b]?):Wr F w':=λb hb=>by
 obtain ⟨c,e,he⟩:=h b hb;exact ⟨c,e,by rw [hk b hb];exact he⟩
def Wr.lt {F:List Nat} {w:wD} (h:Wr F w):∀ b∈F,b<w.heap.size:=λb hb=>by
 obtain ⟨c,e,he⟩:=h b hb;exact (Array.getElem?_eq_some_iff.1 he).1
def Wr.ext {F:List Nat} {w w':wD} (h:Wr F w) (hx:Ext w w'):Wr F w':=h.keep λb hb=>hx.heap (h.lt b hb)
def Wr.nil (w:wD):Wr [] w:=λb hb=>by cases hb
def Wr.append {F G:List Nat} {w:wD} (h:Wr F w) (k:Wr G w):Wr (F++G) w:=λb hb=>by
 rcases qae.1 hb with hb | hb
 . exact h b hb
 exact k b hb
def Wr.sub {F G:List Nat} {w:wD} (h:Wr F w) (hs:∀ b∈G,b∈F):Wr G w:=λb hb=>h b (hs b hb)
def Mine.keep {F:List Nat} {w w':wD} {v:vL} {x:α} (h:Mine F w v x) (hk:∀ b∈F,w'.heap[b]?=w.heap[b]?):Mine F w' v x:=⟨h.own.keep hk,h.nodup,h.wr.keep hk⟩
def Mine.ext {F:List Nat} {w w':wD} {v:vL} {x:α} (h:Mine F w v x) (hx:Ext w w'):Mine F w' v x:=⟨h.own.ext hx,h.nodup,h.wr.ext hx⟩
def Mine.is {F:List Nat} {w:wD} {v:vL} {x:α} (h:Mine F w v x):Is w v x:=h.own.is
def Mine.lt {F:List Nat} {w:wD} {v:vL} {x:α} (h:Mine F w v x):∀ b∈F,b<w.heap.size:=h.own.lt
def Own.ext {lo:Nat} {w w':wD} {v:vL} {x:α} (h:Own lo w v x) (hx:Ext w w'):Own lo w' v x:=by
 obtain ⟨F,hm,hl⟩:=h;exact ⟨F,hm.ext hx,hl⟩
def Own.is {lo:Nat} {w:wD} {v:vL} {x:α} (h:Own lo w v x):Is w v x:=by
 obtain ⟨_,hm,_⟩:=h;exact hm.is
def Own.mono {lo lo':Nat} {w:wD} {v:vL} {x:α} (h:Own lo w v x) (hl:lo'<=lo):Own lo' w v x:=by
 obtain ⟨F,hm,hb⟩:=h;exact ⟨F,hm,λb g0=>qat hl (hb b g0)⟩
end
instance:Rep Int where
 size:=1
 agg:=false
 rep F _ cs x:=F=[]/\cs=[.int .i64 x]/\I64 x
 pos:=by decide
 sz _:=rfl
 len:=by rintro _ _ _ _ ⟨_,rfl,_⟩;rfl
 one:=by rintro _ _ _ _ ⟨_,rfl,_⟩ v hv;simp at hv;subst hv;rfl
 keep:=by rintro _ _ _ _ _ h _;exact h
 lt:=by rintro _ _ _ _ ⟨rfl,_⟩ b hb;cases hb
instance:Rep Bool where
 size:=1
 agg:=false
 rep F _ cs x:=F=[]/\cs=[.bool x]
 pos:=by decide
 sz _:=rfl
 len:=by rintro _ _ _ _ ⟨_,rfl⟩;rfl
 one:=by rintro _ _ _ _ ⟨_,rfl⟩ v hv;simp at hv;subst hv;rfl
 keep:=by rintro _ _ _ _ _ h _;exact h
 lt:=by rintro _ _ _ _ ⟨rfl,_⟩ b hb;cases hb
instance:Rep ByteArray where
 size:=1
 agg:=false
 rep F _ cs x:=F=[]/\cs=[.string x]/\x.size<=maxLen
 pos:=by decide
 sz _:=rfl
 len:=by rintro _ _ _ _ ⟨_,rfl,_⟩;rfl
 one:=by rintro _ _ _ _ ⟨_,rfl,_⟩ v hv;simp at hv;subst hv;rfl
 keep:=by rintro _ _ _ _ _ h _;exact h
 lt:=by rintro _ _ _ _ ⟨rfl,_⟩ b hb;cases hb
instance {α β:Type} [Rep α] [Rep β]:Rep (α×β) where
 size:=Rep.size α+Rep.size β
 agg:=true
 rep F w cs x:=∃ F1 F2 c1 c2,F=F1++F2/\cs=c1++c2/\rep F1 w c1 x.1/\rep F2 w c2 x.2
 pos:=by have:=Rep.pos (α:=α);omega
 sz h:=by cases h
 len:=by rintro _ _ _ _ ⟨F1,F2,c1,c2,rfl,rfl,h1,h2⟩;rw [qag,Rep.len h1,Rep.len h2]
 one:=by
   rintro _ _ _ _ ⟨F1,F2,c1,c2,rfl,rfl,h1,h2⟩ v hv;rcases qae.1 hv with hv | hv
   · exact Rep.one h1 v hv
   exact Rep.one h2 v hv
 keep:=by
   rintro _ _ _ _ _ ⟨F1,F2,c1,c2,rfl,rfl,h1,h2⟩ hk;exact ⟨F1,F2,c1,c2,rfl,rfl,Rep.keep h1 λb hb=>hk b (by simp [hb]),Rep.keep h2 λb hb=>hk b (by simp [hb])⟩
 lt:=by
   rintro _ _ _ _ ⟨F1,F2,c1,c2,rfl,rfl,h1,h2⟩ b hb;rcases qae.1 hb with hb | hb
   · exact Rep.lt h1 b hb
   exact Rep.lt h2 b hb
@[reducible] def Rep.via {α β:Type} [Rep β] (f:α->β):Rep α where
 size:=Rep.size β
 agg:=true
 rep F w cs x:=rep F w cs (f x)
 pos:=Rep.pos
 sz h:=by cases h
 len h:=Rep.len h
 one h:=Rep.one h
 keep h:=Rep.keep h
 lt h:=Rep.lt h
def Cells {α:Type} [Rep α]:List Nat->wD->List vL->List α->Prop
 | F,_,xs,[]=>F=[]/\xs=[]
 | F,w,xs,y :: ys=>∃ F1 F2 c1 c2,F=F1++F2/\xs=c1++c2/\rep F1 w c1 y/\Cells F2 w c2 ys
section
variable {α:Type} [Rep α]
theorem Cells.len {w:wD}:∀ {l:List α} {F:List Nat} {xs:List vL},Cells F w xs l->xs.length=l.length*Rep.size α
 | [],_,_,⟨_,h⟩=>by simp [h]
 | y :: ys,_,_,⟨F1,F2,c1,c2,_,h,h1,h2⟩=>by rw [h,qag,Rep.len h1,Cells.len h2,qak,qbp];omega
theorem Cells.one {w:wD}:∀ {l:List α} {F:List Nat} {xs:List vL},Cells F w xs l->∀ v∈xs,v.oneCell'=true
 | [],_,_,⟨_,h⟩,v,hv=>by rw [h] at hv;cases hv
 | y :: ys,_,_,⟨F1,F2,c1,c2,_,h,h1,h2⟩,v,hv=>by
   rw [h] at hv;rcases qae.1 hv with hv | hv
   . exact Rep.one h1 v hv
   exact Cells.one h2 v hv
theorem Cells.keep {w w':wD}:∀ {l:List α} {F:List Nat} {xs:List vL},Cells F w xs l->(∀ b∈F,w'.heap[b]?=w.heap[b]?)->Cells F w' xs l
 | [],_,_,h,_=>h
 | y :: ys,_,_,⟨F1,F2,c1,c2,hF,h,h1,h2⟩,hk=>
   ⟨F1,F2,c1,c2,hF,h,Rep.keep h1 λb hb=>hk b (by rw [hF];simp [hb]),Cells.keep h2 λb hb=>hk b (by rw [hF];simp [hb])⟩
theorem Cells.lt {w:wD}:∀ {l:List α} {F:List Nat} {xs:List vL},Cells F w xs l->∀ b∈F,b<w.heap.size
 | [],_,_,⟨h,_⟩,b,hb=>by rw [h] at hb;cases hb
 | y :: ys,_,_,⟨F1,F2,c1,c2,hF,h,h1,h2⟩,b,hb=>by
   rw [hF] at hb;rcases qae.1 hb with hb | hb
   . exact Rep.lt h1 b hb
   exact Cells.lt h2 b hb
theorem Cells.append {w:wD}:∀ {l m:List α} {F G:List Nat} {xs ys:List vL},Cells F w xs l->Cells G w ys m->Cells (F++G) w (xs++ys) (l++m)
 | [],_,_,_,_,_,⟨hF,hx⟩,k=>by subst hF hx;exact k
 | y :: l,_,_,_,_,_,⟨F1,F2,c1,c2,hF,hx,h1,h2⟩,k=>by
   subst hF hx;exact ⟨F1,F2++_,c1,c2++_,sS,sS,h1,Cells.append h2 k⟩
theorem Cells.split {w:wD}:∀ {l m:List α} {F:List Nat} {xs:List vL},Cells F w xs (l++m)->∃ F1 F2 x1 x2,F=F1++F2/\xs=x1++x2/\Cells F1 w x1 l/\Cells F2 w x2 m
 | [],_,F,xs,h=>⟨[],F,[],xs,rfl,rfl,⟨rfl,rfl⟩,h⟩
 | y :: l,m,_,_,⟨F1,F2,c1,c2,hF,hx,h1,h2⟩=>by
   obtain ⟨G1,G2,x1,x2,rfl,rfl,k1,k2⟩:=Cells.split h2;exact ⟨F1++G1,G2,c1++x1,x2,by simp [hF],by simp [hx],⟨F1,G1,c1,x1,rfl,rfl,h1,k1⟩,k2⟩
def Cells.single {w:wD} {F:List Nat} {cs:List vL} {x:α} (h:rep F w cs x):Cells F w cs [x]:=⟨F,[],cs,[],sS,sS,h,rfl,rfl⟩
end
instance {α:Type} [Rep α]:Rep (List α) where
 size:=1
 agg:=false
 rep F w cs l:=∃ a cap Fi xs,cs=[.slice a l.length cap]/\l.length<=cap/\cap<=maxLen/\Cells Fi w xs l /\
   ((l=[]/\F=[])\/∃ b o,a=some ⟨b,o,none⟩/\F=b :: Fi/\w.rangeAt b o xs/\b<w.heap.size)
 pos:=by decide
 sz _:=rfl
 len:=by rintro _ _ _ _ ⟨_,_,_,_,rfl,_⟩;rfl
 one:=by rintro _ _ _ _ ⟨_,_,_,_,rfl,_⟩ v hv;simp at hv;subst hv;rfl
 keep:=by
   rintro _ _ _ _ _ ⟨a,cap,Fi,xs,hcs,h1,h2,hc,h⟩ hk;rcases h with ⟨rfl,rfl⟩ | ⟨b,o,ha,hF,hr,hb⟩
   · exact ⟨a,cap,Fi,xs,hcs,h1,h2,hc,.inl ⟨rfl,rfl⟩⟩
   subst hF;have hbb:=hk b (by simp);refine ⟨a,cap,Fi,xs,hcs,h1,h2,Cells.keep hc λc hc=>hk c (by simp [hc]),.inr ⟨b,o,ha,rfl,zbo hr hbb,?_⟩⟩;rcases qay b (Array.size (World.heap _)) with h' | h'
   · exact h'
   rw [Array.getElem?_eq_none h'] at hbb;simp [Array.getElem?_eq_getElem hb] at hbb
 lt:=by
   rintro _ _ _ _ ⟨a,cap,Fi,xs,hcs,h1,h2,hc,h⟩ c hm;rcases h with ⟨rfl,rfl⟩ | ⟨b,o,ha,hF,hr,hb⟩
   · cases hm
   subst hF;rcases qaa.1 hm with rfl | hm
   · exact hb
   exact Cells.lt hc c hm
end Go.Sh
namespace Go.Sh
open Go.RowKit (Below)
open Rep (rep)
variable {L:List Nat} {w:wD}
def br {p:Prop} [Decidable p] {kt kf:Prop} (h1:p->kt) (h2:¬p->kf):BR (.bool (decide p)) kt kf:=by
 by_cases h:p
 . simp only [h,qa6];exact h1 h
 simp only [h,qam];exact h2 h
def zbX {b:Bool} {kt kf:Prop} (h1:b=true->kt) (h2:b=false->kf):BR (.bool b) kt kf:=by
 cases b
 . exact h2 rfl
 exact h1 rfl
def gbr {p:Prop} [Decidable p] {kt kf ks:Prop} (h1:p->kt) (h2:¬p->kf):GBR (.bool (decide p)) kt kf ks:=by
 by_cases h:p
 . simp only [h,qa6];exact h1 h
 simp only [h,qam];exact h2 h
def zxE {b:Bool} {kt kf ks:Prop} (h1:b=true->kt) (h2:b=false->kf):GBR (.bool b) kt kf ks:=by
 cases b
 . exact h2 rfl
 exact h1 rfl
def zap {init:List vL} {body:Env->wD->(List vL->wD->Prop)->Prop} (n:Nat) (I:Nat->List vL->wD->Prop) (k0:Nat) (hk:k0<=n) (h0:I k0 init w)
   (hr:∀ k m u w',k+m=n->I k (L.map u) w'->body u w' (λus w''=>∃ m',m'<m/\∃ k',k'+m'=n/\I k' us w'')):LOOPI L init w body:=
 .mk (λm us w=>∃ k,k+m=n/\I k us w) (n-k0) ⟨k0,oo,h0⟩ (λm u w' ⟨k,hk,h⟩=>hr k m u w' hk h)
section
variable {P:pG} {w w0:wD} {K:vL->Prop}
def zba {m:Sem vL} {v:vL} (h:∀ w',Ext w w'->m.run P w'=.ok v w') (k:K v):RD P m w K:=⟨v,h,k⟩
section za5
variable {t:TypeId} {x y:Operand} {a b:Int} {kd:IntKind}
def zaf (k:K (.bool (decide (a<b)))):RD P (bin .lss t x y (.int kd a) (.int kd b)) w K:=zba (λw' _=>by simp [bin,eqGuard,binOp,Op.intCmp]) k
def zew (k:K (.bool (decide (a<=b)))):RD P (bin .leq t x y (.int kd a) (.int kd b)) w K:=zba (λw' _=>by simp [bin,eqGuard,binOp,Op.intCmp]) k
def zcO (k:K (.bool (decide (b<a)))):RD P (bin .gtr t x y (.int kd a) (.int kd b)) w K:=zba (λw' _=>by simp [bin,eqGuard,binOp,Op.intCmp]) k
def zb9 (k:K (.bool (decide (b<=a)))):RD P (bin .geq t x y (.int kd a) (.int kd b)) w K:=zba (λw' _=>by simp [bin,eqGuard,binOp,Op.intCmp]) k
def zai (k:K (.bool (decide (a=b)))):RD P (bin .eql t x y (.int kd a) (.int kd b)) w K:=
 zba (λw' _=>by simp [bin,eqGuard,binOp,Op.intCmp];rfl) k
def zaT (k:K (.bool (decide (a≠b)))):RD P (bin .neq t x y (.int kd a) (.int kd b)) w K:=
 zba (λw' _=>by simp [bin,eqGuard,binOp,Op.intCmp];rfl) k
def zcY (h:I64 (a+b)) (k:K (.int .i64 (a+b))):RD P (bin .add t x y (.int .i64 a) (.int .i64 b)) w K:=
 zba (λw' _=>by simp [bin,eqGuard,binOp,Op.intArith,IntWalk.i64_in _ h]) k
def zbe (h:I64 (a-b)) (k:K (.int .i64 (a-b))):RD P (bin .sub t x y (.int .i64 a) (.int .i64 b)) w K:=
 zba (λw' _=>by simp [bin,eqGuard,binOp,Op.intArith,IntWalk.i64_in _ h]) k
def zn1 (h:I64 (a*b)) (k:K (.int .i64 (a*b))):RD P (bin .mul t x y (.int .i64 a) (.int .i64 b)) w K:=
 zba (λw' _=>by simp [bin,eqGuard,binOp,Op.intArith,IntWalk.i64_in _ h]) k
def zFW {n:Nat} (h:n<9223372036854775807) (k:K (.int .i64 ((n+1:Nat):Int))):RD P (bin .add t x y (.int .i64 (n:Int)) (.int .i64 1)) w K:=
 zcY io (by simpa using k)
def zqJ (hb:b≠0) (k:K (.int kd (a.tmod b))):RD P (bin .rem t x y (.int kd a) (.int kd b)) w K:=
 zba (λw' _=>by simp [bin,eqGuard,binOp,Op.intDiv,hb]) k
def zhk {m n:Nat} (hm:m<4611686018427387904) (hn:n<4611686018427387904) (k:K (.int .i64 ((m ||| n:Nat):Int))):RD P (bin .or t x y (.int .i64 (m:Int)) (.int .i64 (n:Int))) w K:=by
 have:m ||| n<2^62:=qa2 hm hn;refine zba (λw' _=>?_) k;have e1:IntKind.i64.wrap ((m ||| n:Nat):Int)=((m ||| n:Nat):Int):=IntWalk.i64_in _ oo
 have e2:((BitVec.ofInt 64 (m:Int)) ||| (BitVec.ofInt 64 (n:Int))).toNat=m ||| n:=by
   simp only [BitVec.toNat_or,BitVec.ofInt_natCast,BitVec.toNat_ofNat];rw [qbA oo,qbA oo]
 show (do eqGuard .or t x y (.int .i64 (m:Int)) (.int .i64 (n:Int));binOp .or t (.int .i64 (m:Int)) (.int .i64 (n:Int)):Sem vL).run P w'=_;simp only [eqGuard,binOp,Op.intBits];show Result.ok (Value.int .i64 (IntKind.i64.wrap (((BitVec.ofInt 64 (m:Int)) ||| (BitVec.ofInt 64 (n:Int))).toNat:Nat))) w'=_;rw [e2,e1]
def zeA {n:Nat} {ku:IntKind} (hn:n<62) (k:K (.int .i64 ((2^n:Nat):Int))):RD P (bin .shl t x y (.int .i64 1) (.int ku (n:Int))) w K:=by
 refine zba (λw' _=>?_) k;have hp:(2^n:Nat)<4611686018427387904:=qaT oo hn;have e1:IntKind.i64.wrap ((2^n:Nat):Int)=((2^n:Nat):Int):=by generalize 2^n=q at hp;exact IntWalk.i64_in _ oo
 have e0:¬((n:Int)<0):=oo;have e2:min n 64=n:=oo;show (do eqGuard .shl t x y (.int .i64 1) (.int ku (n:Int));binOp .shl t (.int .i64 1) (.int ku (n:Int)):Sem vL).run P w'=_;simp only [eqGuard,binOp,Op.shift,e0,if_false,qal];show Result.ok (Value.int .i64 (IntKind.i64.wrap ((1:Int)*2^(min n 64)))) w'=_;rw [e2,<-e1];simp
def zcq {g0 dst:TypeId} {n:Nat} (hs:(P.underlying g0).isSome=true) (hd:P.underlying dst=some (.int .u64)) (hn:n<9223372036854775808) (k:K (.int .u64 (n:Int))):RD P (convert g0 dst (.int .i64 (n:Int))) w K:=by
 refine zba (λ_ _=>?_) k;obtain ⟨_,g1⟩:=Option.isSome_iff_exists.mp hs;have:IntKind.u64.wrap (n:Int)=n:=by simp [IntKind.wrap,IntKind.signed,IntKind.bits];omega
 simp [convert,run_underlying g1,run_underlying hd,Conv.intToInt,this]
end za5
def za2 {b:Bool} (k:K (.bool (!b))):RD P (Op.unary .not (.bool b)) w K:=zba (λ_ _=>rfl) k
def zav {p:Prop} [Decidable p] (k:K (.bool (decide (¬p)))):RD P (Op.unary .not (.bool (decide p))) w K:=
 zba (λw' _=>by simp [Op.unary]) k
def zhl {t e:TypeId} {x y:Operand} {a:Option Addr} {n c:Nat} (ht:P.underlying t=some (.slice e)) (k:K (.bool a.isNone)):RD P (bin .eql t x y (.slice a n c) (.slice none 0 0)) w K:=
 zba (λw' _=>by simp only [bin,eqGuard,binOp];simp [run_equal_slice_nil w' t e a n c ht]) k
def zaN {vs:Array vL} {i:Nat} {v:vL} (h:vs[i]?=some v) (k:K v):RD P (Instr.extract (.tuple vs) i) w K:=
 zba (λw' _=>by simp [Instr.extract,h]) k
def zFX {v:vL} {x:Int}:Is w v x↔v=.int .i64 x/\I64 x:=by
 constructor
 . rintro ⟨_,_,⟨_,rfl,h⟩,rfl⟩;exact ⟨rfl,h⟩
 rintro ⟨rfl,h⟩;exact ⟨[],_,⟨rfl,rfl,h⟩,rfl⟩
def zEd {v:vL} {x:Bool}:Is w v x↔v=.bool x:=by
 constructor
 . rintro ⟨_,_,⟨_,rfl⟩,rfl⟩;rfl
 rintro rfl;exact ⟨[],_,⟨rfl,rfl⟩,rfl⟩
def zFY {v:vL} {x:ByteArray}:Is w v x↔v=.string x/\x.size<=maxLen:=by
 constructor
 . rintro ⟨_,_,⟨_,rfl,h⟩,rfl⟩;exact ⟨rfl,h⟩
 rintro ⟨rfl,h⟩;exact ⟨[],_,⟨rfl,rfl,h⟩,rfl⟩
section strings
def bts (s:ByteArray):List UInt8:=s.data.toList
def zbB (s:ByteArray):(bts s).length=s.size:=by simp [bts]
def zEe {a b:ByteArray} (h:bts a=bts b):a=b:=by
 obtain ⟨⟨_⟩⟩:=a;obtain ⟨⟨_⟩⟩:=b;simp only [bts] at h;rw [h]
instance decMemBA:∀ (s:ByteArray) (l:List ByteArray),Decidable (s∈l)
 | s,[]=>isFalse (by simp)
 | s,x :: l=>if h:s=x then isTrue (by simp [h]) else match decMemBA s l with
   | isTrue h'=>isTrue (by simp [h'])
   | isFalse h'=>isFalse (by simp [h,h'])
def zfB {t ty:TypeId} {s:ByteArray} (ht:P.underlying t=some .string) (k:K (.int .i64 (s.size:Int))):RD P (Builtin.len_ #[t] ty [Value.string s].toArray) w K:=
 zba (λw' _=>by simp [Builtin.len_,run_underlying ht];rfl) k
def zed {t:TypeId} {s:ByteArray} {i:Nat} (ht:P.underlying t=some .string) (hi:i<s.size) (k:K (.int .u8 (((bts s)[i]'(by rw [zbB];exact hi)).toNat:Int))):RD P (Instr.index t (.string s) (.int .i64 (i:Int))) w K:=by
 refine zba (λ_ _=>?_) k
 have h1:s[i]?=some ((bts s)[i]'(by rw [zbB];exact hi)):=by
   rw [getElem?_pos s i hi];rfl
 simp [Instr.index,asIntOf,run_underlying ht,h1]
def zxF (a b:ByteArray):(a.toList == b.toList)=decide (a=b):=by
 rw [ByteArray.toList_eq,ByteArray.toList_eq];by_cases h:a=b
 . subst h;simp
 have:¬a.data.toList=b.data.toList:=λe=>h (zEe e);simp only [h,qam];simpa using this
def zaQ {t:TypeId} {x y:Operand} {a b:ByteArray} (k:K (.bool (decide (a=b)))):RD P (bin .eql t x y (.string a) (.string b)) w K:=
 zba (λw' _=>by simp only [bin,eqGuard,binOp,Op.stringOp,zxF];rfl) k
def zpd {t:TypeId} {x y:Operand} {a b:ByteArray} (k:K (.bool (decide (a≠b)))):RD P (bin .neq t x y (.string a) (.string b)) w K:=
 zba (λw' _=>by simp only [bin,eqGuard,binOp,Op.stringOp,zxF];simp) k
end strings
section data
variable {α β:Type} [Rep α] [Rep β]
def zcE {v:vL} {l:List α} (h:Is w v l):∃ a cap Fi xs,v=.slice a l.length cap/\l.length<=cap/\cap<=maxLen/\Cells Fi w xs l /\
   (l=[]\/∃ b o,a=some ⟨b,o,none⟩/\w.rangeAt b o xs/\b<w.heap.size):=by
 obtain ⟨_,_,⟨a,cap,Fi,xs,rfl,h1,h2,h3,h4⟩,rfl⟩:=h;refine ⟨a,cap,Fi,xs,rfl,h1,h2,h3,?_⟩;rcases h4 with ⟨h,_⟩ | ⟨b,o,ha,_,hr,hb⟩
 . exact .inl h
 exact .inr ⟨b,o,ha,hr,hb⟩
def zak {v:vL} {l:List α} (h:Is w v l):l.length<=9223372036854775807:=by
 obtain ⟨_,_,_,_,_,_,h2,_⟩:=zcE h;rw [zaj] at h2;omega
def zlS {v:vL} (h:v=.slice none 0 0):Is w v ([]:List α):=by
 subst h;exact ⟨[],_,⟨none,0,[],[],rfl,lr _,z0 _,⟨rfl,rfl⟩,.inl ⟨rfl,rfl⟩⟩,rfl⟩
def ziz {lo:Nat} {v:vL} (h:v=.slice none 0 0):Own lo w v ([]:List α):=by
 subst h;exact ⟨[],⟨⟨_,⟨none,0,[],[],rfl,lr _,z0 _,⟨rfl,rfl⟩,.inl ⟨rfl,rfl⟩⟩,rfl⟩,qav,Wr.nil w⟩,sS⟩
def zae {t ty e:TypeId} {v:vL} {l:List α} (ht:P.underlying t=some (.slice e)) (h:Is w0 v l) (k:K (.int .i64 (l.length:Int))) :
   RD P (Builtin.len_ #[t] ty [v].toArray) w K:=by
 obtain ⟨_,_,_,_,rfl,_⟩:=zcE h;exact zba (λ_ _=>by simp [Builtin.len_,run_underlying ht];rfl) k
def zaK {b o:Nat} {x y:List vL} (h:w.rangeAt b o (x++y)):w.rangeAt b o x/\w.rangeAt b (o+x.length) y:=by
 refine ⟨λj v hv=>h j v ?_,λj v hv=>?_⟩
 . rw [List.getElem?_append_left (List.getElem?_eq_some_iff.1 hv).1];exact hv
 have:=h (x.length+j) v (by rw [List.getElem?_append_right oo];simpa using hv);rwa [<-qcr] at this
def zfV {b o:Nat} {x y:List vL} (h:w.rangeAt b o x) (k:w.rangeAt b (o+x.length) y):w.rangeAt b o (x++y):=by
 intro j v hv;rcases qay j x.length with hj | hj
 . rw [List.getElem?_append_left hj] at hv;exact h j v hv
 rw [List.getElem?_append_right hj] at hv;have:=k (j-x.length) v hv;rwa [show o+x.length+(j-x.length)=o+j by omega] at this
def Cells.at {F:List Nat} {xs:List vL} {l:List α} {b o i:Nat} (h:Cells F w xs l) (hr:w.rangeAt b o xs) (hi:i<l.length):At w b (o+i*Rep.size α) l[i]:=by
 have e:l=l.take i++(l[i] :: l.drop (i+1)):=by simp
 rw [e] at h;obtain ⟨_,_,x1,_,rfl,rfl,h1,h2⟩:=Cells.split h;obtain ⟨G1,_,c1,_,rfl,rfl,k1,_⟩:=h2;have hl:x1.length=i*Rep.size α:=by rw [Cells.len h1,qaj];congr 1;omega
 have:=zaK (zaK hr).2;rw [hl] at this;exact ⟨G1,c1,k1,this.1⟩
def tyI (P:pG) (t:TypeId):Option (Nat×Nat×Bool):=
 match P.info? t,P.underlying t with
 | some i,some d=>some (i.size,i.bytes,d.isRow)
 | _,_=>none
theorem zdE {t s by_:Nat} {g:Bool} (h:tyI P t=some (s,by_,g)):∃ i d,P.info? t=some i/\P.underlying t=some d/\i.size=s/\i.bytes=by_/\d.isRow=g:=by
 unfold tyI at h;cases hi:P.info? t with
 | none=>simp [hi] at h
 | some i=>
   cases hd:P.underlying t with
   | none=>simp [hi,hd] at h
   | some d=>simp only [hi,hd,qao,qcd] at h;exact ⟨i,d,rfl,rfl,h.1,h.2.1,h.2.2⟩
def zaJ {t s by_:Nat} {g:Bool} (h:tyI P t=some (s,by_,g)) (w:wD):(sizeOf t).run P w=.ok s w:=by
 obtain ⟨_,_,hi,_,hs,_⟩:=zdE h;simp [sizeOf,typeInfo,hi,hs]
def zca {t s by_:Nat} {g:Bool} (h:tyI P t=some (s,by_,g)) (w:wD):(isAgg t).run P w=.ok g w:=by
 obtain ⟨_,d,_,hd,_,_,hg⟩:=zdE h;unfold isAgg;rw [Sem.run_bind,run_underlying hd w];cases d<;>subst hg<;>simp
def zcb {t e:TypeId} {b o n cap s by_:Nat} {g:Bool} {i:Int} (ht:P.underlying t=some (.slice e)) (he:tyI P e=some (s,by_,g)) (h0:0<=i) (h1:i<n) (w:wD) :
   (Instr.indexAt t (.slice (some ⟨b,o,none⟩) n cap) (.int .i64 i)).run P w=.ok (.pointer (some ⟨b,o+i.toNat*s,none⟩)) w:=by
 simp [Instr.indexAt,run_underlying ht,asIntOf,h0,h1,zaJ he,Addr.add_mid]
def zaC {t e:TypeId} {by_:Nat} {v:vL} {l:List α} {i:Int} (ht:P.underlying t=some (.slice e)) (he:tyI P e=some (Rep.size α,by_,Rep.agg α)) (h:Is w0 v l) (h0:0<=i) (h1:i.toNat<l.length)
   (k:∀ b o,At w0 b o (l[i.toNat]'h1)->K (.pointer (some ⟨b,o,none⟩))):RD P (Instr.indexAt t v (.int .i64 i)) w K:=by
 obtain ⟨_,_,_,_,rfl,_,_,hc,hh⟩:=zcE h;rcases hh with rfl | ⟨b,o,rfl,hr,_⟩
 . simp at h1
 exact zba (λw' _=>zcb ht he h0 oo w') (k _ _ (Cells.at hc hr h1))
def zad {t e:TypeId} {by_:Nat} {v:vL} {l:List α} {i:Nat} (ht:P.underlying t=some (.slice e)) (he:tyI P e=some (Rep.size α,by_,Rep.agg α)) (h:Is w0 v l) (h1:i<l.length)
   (k:∀ b o,At w0 b o l[i]->K (.pointer (some ⟨b,o,none⟩))):RD P (Instr.indexAt t v (.int .i64 (i:Int))) w K:=
 zaC ht he h oo (by simpa using h1) (λb o hA=>k b o (by simpa using hA))
theorem zfC {t by_ b o:Nat} {F:List Nat} {cs:List vL} {x:α} (ht:tyI P t=some (Rep.size α,by_,Rep.agg α)) (hr:rep F w cs x) (hc:w.rangeAt b o cs) :
   (Instr.loadAt t (.pointer (some ⟨b,o,none⟩))).run P w=.ok (mkv α cs) w:=by
 obtain ⟨_,d,hi,hd,hs,_,hg⟩:=zdE ht;have hl:=Rep.len hr;cases hag:Rep.agg α with
 | true=>
   rw [run_loadAt_mid w b o t cs d hc hd (by rw [hg,hag]) (by simp [hi,hs,hl])];simp [mkv,hag]
 | false=>
   have h1:=Rep.sz hag;rw [h1] at hl;obtain ⟨c,rfl⟩:=qbr.1 hl;have h0:w.cell? ⟨b,o,none⟩=some c:=by simpa using hc 0 c rfl
   have hA:=zca ht w;rw [hag] at hA;simp [Instr.loadAt,Instr.sureAddr,loadVar,hA,h0,mkv,hag]
def zab {t by_ b o:Nat} {x:α} (ht:tyI P t=some (Rep.size α,by_,Rep.agg α)) (h:At w0 b o x) (hx:Ext w0 w) (k:∀ v,Is w0 v x->K v) :
   RD P (Instr.loadAt t (.pointer (some ⟨b,o,none⟩))) w K:=by
 obtain ⟨F,cs,hr,hc⟩:=h;exact zba (λ_ g0=>zfC ht (zcp hr (hx.t g0)) (zbQ hc (hx.t g0))) (k _ ⟨F,cs,hr,rfl⟩)
def zA2 {t by_ b o:Nat} {F:List Nat} {cs:List vL} {x:α} (ht:tyI P t=some (Rep.size α,by_,Rep.agg α)) (hr:rep F w cs x) (hc:w.rangeAt b o cs) (k:K (mkv α cs)) :
   RD P (Instr.loadAt t (.pointer (some ⟨b,o,none⟩))) w K:=
 zba (λw' hx'=>zfC ht (zcp hr hx') (zbQ hc hx')) k
def zac {t by_ b o:Nat} {x:Int} (ht:tyI P t=some (1,by_,false)) (h:At w0 b o x) (hx:Ext w0 w) (k:I64 x->K (.int .i64 x)) :
   RD P (Instr.loadAt t (.pointer (some ⟨b,o,none⟩))) w K:=
 zab (α:=Int) ht h hx λv hv=>by obtain ⟨rfl,h⟩:=zFX.1 hv;exact k h
def zar {t by_ b o:Nat} {x:ByteArray} (ht:tyI P t=some (1,by_,false)) (h:At w0 b o x) (hx:Ext w0 w) (k:x.size<=maxLen->K (.string x)) :
   RD P (Instr.loadAt t (.pointer (some ⟨b,o,none⟩))) w K:=
 zab (α:=ByteArray) ht h hx λv hv=>by obtain ⟨rfl,h⟩:=zFY.1 hv;exact k h
def zbi {t by_ b o:Nat} {x:Bool} (ht:tyI P t=some (1,by_,false)) (h:At w0 b o x) (hx:Ext w0 w) (k:K (.bool x)) :
   RD P (Instr.loadAt t (.pointer (some ⟨b,o,none⟩))) w K:=
 zab (α:=Bool) ht h hx λv hv=>by obtain rfl:=zEd.1 hv;exact k
def zdf (P:pG) (t:TypeId) (i:Nat):Option Nat:=
 match P.underlying t with
 | some (.struct fs)=>match fs[i]? with
   | some f=>match P.info? f.type with
     | some j=>bif Nat.beq j.size 0 then none else some f.offset
     | none=>none
   | none=>none
 | _=>none
theorem zaa {t i g0 b o:Nat} (hf:zdf P t i=some g0) (k:K (.pointer (some ⟨b,o+g0,none⟩))):RD P (Instr.fieldAt t (.pointer (some ⟨b,o,none⟩)) i) w K:=by
 refine zba (λ_ _=>?_) k;unfold zdf at hf;cases hu:P.underlying t with
 | none=>simp [hu] at hf
 | some d=>
   cases d with
   | struct fs=>
     simp only [hu] at hf;cases hfi:fs[i]? with
     | none=>simp [hfi] at hf
     | some f=>
       simp only [hfi] at hf;cases hin:P.info? f.type with
       | none=>simp [hin] at hf
       | some j=>
         simp only [hin] at hf;cases hb:Nat.beq j.size 0 with
         | true=>simp [hb] at hf
         | false=>
           simp only [hb,cond_false,qao] at hf;have g1:¬j.size=0:=λe=>by rw [e] at hb;cases hb
           subst hf;simp [Instr.fieldAt,run_underlying hu,hfi,Instr.sureAddr,fieldPlace,sizeOf,typeInfo,hin,g1,Addr.add_mid]
   | _=>simp [hu] at hf
def zcn {b o:Nat} {p:α×β} (h:At w b o p):At w b o p.1:=by
 obtain ⟨_,_,⟨F1,_,c1,_,rfl,rfl,h1,_⟩,hr⟩:=h;exact ⟨F1,c1,h1,(zaK hr).1⟩
def za7 {b o:Nat} {p:α×β} (h:At w b o p):At w b (o+Rep.size α) p.2:=by
 obtain ⟨_,_,⟨_,F2,_,c2,rfl,rfl,h1,h2⟩,hr⟩:=h;have:=(zaK hr).2;rw [Rep.len h1] at this;exact ⟨F2,c2,h2,this⟩
def zsX {a:Option Addr} {cap:Nat} {l:List α} (h:Is w (.slice a l.length cap) l) (k:Nat) (hk:k<=l.length) (s:Nat) (hs:s=Rep.size α) :
   Is w (.slice (if cap=k then a else a.map (·.add (k*s))) (l.length-k) (cap-k)) (l.drop k):=by
 subst hs;obtain ⟨_,_,⟨_,_,_,_,rfl,_,_,hc,h4⟩,hv⟩:=h;simp only [mkv,Rep.agg,cond_false,qbd,Value.slice.injEq] at hv;obtain ⟨rfl,_,rfl⟩:=hv;have e:l=l.take k++l.drop k:=by simp
 have r:(l.drop k).length=l.length-k:=by simp
 rw [e] at hc;obtain ⟨_,F2,x1,x2,rfl,rfl,c1,c2⟩:=Cells.split hc;have g1:x1.length=k*Rep.size α:=by rw [Cells.len c1,qaj];congr 1;omega
 by_cases hd:l.drop k=[]
 . refine ⟨[],_,⟨if cap=k then a else a.map (·.add (k*Rep.size α)),cap-k,F2,x2,rfl,by rw [r];omega,oo,c2,.inl ⟨hd,rfl⟩⟩,?_⟩;rw [<-r];rfl
 have g2:k<l.length:=by
   rcases qay k l.length with h' | h'
   . exact h'
   exact absurd (List.drop_eq_nil_iff.2 h') hd
 rcases h4 with ⟨rfl,_⟩ | ⟨b,o,rfl,rfl,hr,hb⟩
 . simp at g2
 have g0:=(zaK hr).2;rw [g1] at g0;refine ⟨_,_,⟨_,cap-k,F2,x2,rfl,by rw [r];omega,oo,c2,.inr ⟨b,o+k*Rep.size α,rfl,rfl,g0,hb⟩⟩,?_⟩;rw [qab oo,<-r];simp only [qcH,Addr.add_mid];rfl
def zfn {t e:TypeId} {by_:Nat} {v:vL} {l:List α} {i:Int} (ht:P.underlying t=some (.slice e)) (he:tyI P e=some (Rep.size α,by_,Rep.agg α)) (h:Is w0 v l) (h0:0<=i) (h1:i.toNat<=l.length)
   (k:∀ v',Is w0 v' (l.drop i.toNat)->K v'):RD P (Instr.sliceAt t v (some (.int .i64 i)) none none) w K:=by
 obtain ⟨a,cap,_,_,rfl,_,_,_⟩:=zcE h;refine zba (v:=.slice (if cap=i.toNat then a else a.map (·.add (i.toNat*Rep.size α))) (l.length-i.toNat) (cap-i.toNat)) (λw' _=>?_) (k _ (zsX h i.toNat h1 _ rfl))
 have hb:(Instr.sliceBounds true l.length cap (some (.int .i64 i)) none none).run P w'=.ok (i.toNat,l.length,cap) w':=by
   have:i<=(l.length:Int):=oo;simp [Instr.sliceBounds,Instr.sliceBound,asIntOf,h0,this]
 simp [Instr.sliceAt,Instr.slice,run_underlying ht,hb,zaJ he]
end data
end
end Go.Sh
namespace Go.Sh
open Go.RowKit (Below)
open Rep (rep)
variable {F G:List Nat} {w w':wD}
structure Chg (F:List Nat) (w w':wD):Prop where
 os:w'.os=w.os
 tape:w'.tape=w.tape
 output:w'.output=w.output
 size:w.heap.size<=w'.heap.size
 block:∀ b,b<w.heap.size->b∉F->w'.heap[b]?=w.heap[b]?
def Chg.refl (F:List Nat) (w:wD):Chg F w w:=⟨rfl,rfl,rfl,lr _,λ_ _ _=>rfl⟩
def Chg.trans {a b c:wD} (h:Chg F a b) (k:Chg F b c):Chg F a c:=
 ⟨k.os.trans h.os,k.tape.trans h.tape,k.output.trans h.output,qat h.size k.size,λi hi hF=>(k.block i (qap hi h.size) hF).trans (h.block i hi hF)⟩
def Chg.mono {a b:wD} (h:Chg F a b) (hs:∀ x∈F,x∈G):Chg G a b:=
 ⟨h.os,h.tape,h.output,h.size,λi hi hF=>h.block i hi λe=>hF (hs i e)⟩
def Ext.chg {a b:wD} (F:List Nat) (h:Ext a b):Chg F a b:=⟨h.os,h.tape,h.output,h.size,λi hi _=>h.block i hi⟩
def Chg.ext {a b:wD} (h:Chg [] a b):Ext a b:=⟨h.os,h.tape,h.output,h.size,λi hi=>h.block i hi sS⟩
def Ext.chg_trans {a b c:wD} (h:Ext a b) (k:Chg F b c) (hF:∀ x∈F,a.heap.size<=x):Ext a c:=
 ⟨k.os.trans h.os,k.tape.trans h.tape,k.output.trans h.output,qat h.size k.size,
   λi hi=>(k.block i (qap hi h.size) λe=>by have:=hF i e;omega).trans (h.block i hi)⟩
def zag (w:wD):Ext w (World.drew1 w):=⟨rfl,rfl,rfl,lr _,λ_ _=>rfl⟩
def zaX (w:wD) (o:Obj):Ext w (w.alloc o):=⟨rfl,rfl,rfl,sS,λk hk=>Below.heap_alloc w o k hk⟩
def zqK {row:Option Nat} (h:w.grownBy w' row):Chg row.toList w w':=
 ⟨h.os,h.tape,h.output,h.size,λb hb hF=>h.block b hb λe=>hF (by simp [<-e])⟩
section
variable {P:pG} {w w0:wD} {α β:Type} [Rep α] [Rep β]
def Is.chg {F:List Nat} {w':wD} {v:vL} {x:α} {G:List Nat} (h:OwnF G w v x) (hc:Chg F w w') (hd:∀ b∈G,b∉F):OwnF G w' v x:=
 h.keep λb hb=>hc.block b (h.lt b hb) (hd b hb)
def zbZ (P:pG) (e:TypeId):Bool:=match P.info? e with | some i=>i.zero.isSome | none=>false
def zeB (w:wD) (g:Nat) (cs:Array vL):Chg [g] w (w.setRow g cs):=
 ⟨rfl,rfl,rfl,sS,λb _ hF=>setRow_other w g b _ (by simpa using hF)⟩
theorem ze3 {cs:List vL} {F:List Nat} {x:α} (h:rep F w cs x):(mkv α cs).cells.toList=cs:=by
 unfold mkv;cases ha:Rep.agg α with
 | true=>simp [Value.cells]
 | false=>
   have hl:=Rep.len h;rw [Rep.sz ha] at hl;obtain ⟨c,rfl⟩:=qbr.1 hl;have h1:=Rep.one h c sS;cases c<;>first | rfl | (simp [Value.oneCell'] at h1)
def ze4 {t by_ g o:Nat} {cur:Array vL} {e:TypeId} {F:List Nat} {cs:List vL} {x:α} (ht:tyI P t=some (Rep.size α,by_,Rep.agg α)) (hr:rep F w cs x)
   (hg:w.heap[g]?=some (.cells cur e (0,0))) (g0:o+Rep.size α<=cur.size) :
   (Instr.storeAt t (.pointer (some ⟨g,o,none⟩)) (mkv α cs)).run P w=.ok () (w.setRow g (cur.toList.take o++cs++cur.toList.drop (o+cs.length)).toArray):=by
 obtain ⟨_,_,_,_,_,_⟩:=zdE ht;have hc:=ze3 hr;have hl:=Rep.len hr;have g1:(mkv α cs).cells.size=Rep.size α:=by rw [<-qaH,hc,hl]
 have:=run_storeCells_at (P:=P) g o e cs 0 cur w hg (by rw [hl];simpa using g0) (Rep.one hr);simp only [qco] at this;simp [Instr.storeAt,Instr.sureAddr,storeVar,g1,zaJ ht,hc,this]
def zjf {t e:TypeId} {s by_ n cap g k:Nat} {ag:Bool} {K:vL->Prop} (ht:P.underlying t=some (.slice e)) (he:tyI P e=some (s,by_,ag)) (hk:k<n) (kk:K (.pointer (some ⟨g,k*s,none⟩))) :
   RD P (Instr.indexAt t (.slice (some ⟨g,0,none⟩) n cap) (.int .i64 (k:Int))) w K:=
 zba (λw' _=>by rw [zcb ht he oo oo];simp) kk
def zbp {t:TypeId} {v:vL} {x:α} {K:vL->wD->Prop} (h:Is w0 v x) (hx:Ext w0 w) (k:∀ w',Ext w w'->At w' w.heap.size 0 x->K (.pointer (some ⟨w.heap.size,0,none⟩)) w') :
   OP P (Instr.box t v) w K:=by
 obtain ⟨F,cs,hr,rfl⟩:=h;have hc:=ze3 hr;refine ⟨_,w.alloc (.cells (mkv α cs).cells t),by simp [Instr.box,newVar,newRow],k _ (zaX w _) ⟨F,cs,zcp hr (hx.t (zaX w _)),?_⟩⟩;intro _ _ hu;simp only [World.cell?,heap_alloc_new w _];rw [<-hc] at hu;simpa using hu
def Blk (g e:Nat) (w:wD) (cs:List vL):Prop:=w.heap[g]?=some (.cells cs.toArray e (0,0))
def Blk.lt {g e:Nat} {cs:List vL} (h:Blk g e w cs):g<w.heap.size:=(Array.getElem?_eq_some_iff.1 h).1
def Blk.ext {g e:Nat} {w':wD} {cs:List vL} (h:Blk g e w cs) (hx:Ext w w'):Blk g e w' cs:=by
 unfold Blk;rw [hx.heap h.lt];exact h
def Blk.keep {g e:Nat} {w':wD} {cs:List vL} (h:Blk g e w cs) (hk:w'.heap[g]?=w.heap[g]?):Blk g e w' cs:=by
 unfold Blk;rw [hk];exact h
def Blk.chg {g e:Nat} {F:List Nat} {w':wD} {cs:List vL} (h:Blk g e w cs) (hc:Chg F w w') (hg:g∉F):Blk g e w' cs:=h.keep (hc.block g h.lt hg)
def Blk.range {g e:Nat} {cs:List vL} (h:Blk g e w cs):w.rangeAt g 0 cs:=by
 intro _ _ hv;have h':w.heap[g]?=some (.cells cs.toArray e (0,0)):=h;simpa [World.cell?,h'] using hv
def Blk.at {g e:Nat} {F:List Nat} {cs:List vL} {x:α} (h:Blk g e w cs) (hr:rep F w cs x):At w g 0 x:=⟨F,cs,hr,h.range⟩
def zcu (P:pG) (e:TypeId):Option (List vL):=match P.info? e with | some i=>i.zero.map (·.cells.toList) | none=>none
theorem zaL {e:TypeId} {zs:List vL} {K:vL->wD->Prop} (hz:zcu P e=some zs) (k:∀ w',Ext w w'->Blk w.heap.size e w' zs->K (.pointer (some ⟨w.heap.size,0,none⟩)) w') :
   OP P (Instr.alloc e true (.tuple #[])) w K:=by
 unfold zcu at hz;cases hi:P.info? e with
 | none=>simp [hi] at hz
 | some i=>
   simp only [hi] at hz;obtain ⟨z,g0,rfl⟩:=qaQ.1 hz;exact ⟨_,w.alloc (.cells z.cells e),by simp [Instr.alloc,zeroValue,typeInfo,hi,g0,newVar,newRow],k _ (zaX w _) (by unfold Blk;rw [heap_alloc_new w _])⟩
def Var (P:pG) (t:TypeId) (w:wD) (g:Nat) (v:vL):Prop:=∃ e cs by_,Blk g e w cs/\v=.agg cs.toArray/\tyI P t=some (cs.length,by_,true)
def Var.lt {t g:Nat} {v:vL} (h:Var P t w g v):g<w.heap.size:=by obtain ⟨_,_,_,hB,_⟩:=h;exact hB.lt
def Var.ext {t g:Nat} {v:vL} {w':wD} (h:Var P t w g v) (hx:Ext w w'):Var P t w' g v:=by
 obtain ⟨e,cs,b,hB,r⟩:=h;exact ⟨e,cs,b,hB.ext hx,r⟩
def Var.keep {t g:Nat} {v:vL} {w':wD} (h:Var P t w g v) (hk:w'.heap[g]?=w.heap[g]?):Var P t w' g v:=by
 obtain ⟨e,cs,b,hB,r⟩:=h;exact ⟨e,cs,b,hB.keep hk,r⟩
def zbr {t g:Nat} {v:vL} {K:vL->Prop} (h:Var P t w0 g v) (hx:Ext w0 w) (k:K v):RD P (Instr.loadAt t (.pointer (some ⟨g,0,none⟩))) w K:=by
 obtain ⟨_,cs,_,hB,rfl,ht⟩:=h;obtain ⟨_,d,hi,hd,hs,_,hg⟩:=zdE ht;exact zba (λw' g0=>run_loadAt_mid w' g 0 t cs d ((hB.ext hx).ext g0).range hd hg (by simp [hi,hs])) k
def zax {t by_:Nat} {v:vL} {x:α} {K:vL->wD->Prop} (ht:tyI P t=some (Rep.size α,by_,true)) (ha:Rep.agg α=true) (h:Is w0 v x) (hx:Ext w0 w)
   (k:∀ w',Ext w w'->At w' w.heap.size 0 x->Var P t w' w.heap.size v->K (.pointer (some ⟨w.heap.size,0,none⟩)) w'):OP P (Instr.box t v) w K:=by
 obtain ⟨_,cs,hr,rfl⟩:=h;have hc:=ze3 hr
 have hB:Blk w.heap.size t (w.alloc (.cells (mkv α cs).cells t)) cs:=by
   unfold Blk;rw [heap_alloc_new w _];congr 2;apply qcn;simp [hc]
 refine ⟨_,w.alloc (.cells (mkv α cs).cells t),by simp [Instr.box,newVar,newRow],k _ (zaX w _) (hB.at (zcp hr (hx.t (zaX w _)))) ⟨t,cs,by_,hB,by simp [mkv,ha],by rw [Rep.len hr];exact ht⟩⟩
theorem zcP {e by_:Nat} {zs:List vL} {v:vL} {x:α} {K:vL->wD->Prop} (hz:zcu P e=some zs) (hl:zs.length=Rep.size α) (ht:tyI P e=some (Rep.size α,by_,true)) (ha:Rep.agg α=true) (h:Is w0 v x) (hx:Ext w0 w)
   (k:∀ w',Ext w w'->At w' w.heap.size 0 x->Var P e w' w.heap.size v->K (.pointer (some ⟨w.heap.size,0,none⟩)) w') :
   OP P (Instr.alloc e true (.tuple #[])) w λp w1=>OPU P (Instr.storeAt e p v) w1 (K p):=by
 obtain ⟨_,cs,hr,rfl⟩:=h;have g1:=Rep.len hr;unfold zcu at hz;cases hi:P.info? e with
 | none=>simp [hi] at hz
 | some i=>
   simp only [hi] at hz;obtain ⟨z,g5,rfl⟩:=qaQ.1 hz;refine ⟨.pointer (some ⟨w.heap.size,0,none⟩),w.alloc (.cells z.cells e),by simp [Instr.alloc,zeroValue,typeInfo,hi,g5,newVar,newRow],?_⟩;have hB:(w.alloc (.cells z.cells e)).heap[w.heap.size]?=some (.cells z.cells e (0,0)):=heap_alloc_new w _;have g2:z.cells.size=Rep.size α:=by simpa using hl
   have g9:=zcp hr (hx.t (zaX w (.cells z.cells e)));have g3:=ze4 (P:=P) (t:=e) (by_:=by_) (o:=0) (by rw [ha];exact ht) g9 hB (by simp [g2]);have g0:=setRow_heap (w.alloc (.cells z.cells e)) w.heap.size z.cells (z.cells.toList.take 0++cs++z.cells.toList.drop (0+cs.length)).toArray e _ hB
   have gb:z.cells.toList.take 0++cs++z.cells.toList.drop (0+cs.length)=cs:=by
     rw [qb1,qbE,qa7,qcx (by simp [g2,g1]),qaF]
   rw [gb] at g3 g0;have g4:Ext w ((w.alloc (.cells z.cells e)).setRow w.heap.size cs.toArray):=(zaX w _).chg_trans (zeB _ _ _) sS;exact ⟨_,g3,k _ g4 (Blk.at (e:=e) g0 (zcp hr (hx.t g4))) ⟨e,cs,by_,g0,by simp [mkv,ha],by rw [g1];exact ht⟩⟩
theorem zxG {e by_:Nat} {zs:List vL} {v:vL} {x:α} {K:vL->wD->Prop} (hz:zcu P e=some zs) (hl:zs.length=Rep.size α) (ht:tyI P e=some (Rep.size α,by_,true)) (ha:Rep.agg α=true) (h:Is w0 v x) (hx:Ext w0 w)
   (k:∀ w',Ext w w'->At w' w.heap.size 0 x->Var P e w' w.heap.size v->K (.pointer (some ⟨w.heap.size,0,none⟩)) w') :
   OP P (Instr.alloc e true (.tuple #[])) w λp w1=>Ext w w1/\OPU P (Instr.storeAt e p v) w1 (K p):=by
 obtain ⟨_,cs,hr,rfl⟩:=h;have g1:=Rep.len hr;unfold zcu at hz;cases hi:P.info? e with
 | none=>simp [hi] at hz
 | some i=>
   simp only [hi] at hz;obtain ⟨z,g5,rfl⟩:=qaQ.1 hz;refine ⟨.pointer (some ⟨w.heap.size,0,none⟩),w.alloc (.cells z.cells e),by simp [Instr.alloc,zeroValue,typeInfo,hi,g5,newVar,newRow],zaX w _,?_⟩;have hB:(w.alloc (.cells z.cells e)).heap[w.heap.size]?=some (.cells z.cells e (0,0)):=heap_alloc_new w _;have g2:z.cells.size=Rep.size α:=by simpa using hl
   have g9:=zcp hr (hx.t (zaX w (.cells z.cells e)));have g3:=ze4 (P:=P) (t:=e) (by_:=by_) (o:=0) (by rw [ha];exact ht) g9 hB (by simp [g2]);have g0:=setRow_heap (w.alloc (.cells z.cells e)) w.heap.size z.cells (z.cells.toList.take 0++cs++z.cells.toList.drop (0+cs.length)).toArray e _ hB
   have gb:z.cells.toList.take 0++cs++z.cells.toList.drop (0+cs.length)=cs:=by
     rw [qb1,qbE,qa7,qcx (by simp [g2,g1]),qaF]
   rw [gb] at g3 g0;have g4:Ext w ((w.alloc (.cells z.cells e)).setRow w.heap.size cs.toArray):=(zaX w _).chg_trans (zeB _ _ _) sS;exact ⟨_,g3,k _ g4 (Blk.at (e:=e) g0 (zcp hr (hx.t g4))) ⟨e,cs,by_,g0,by simp [mkv,ha],by rw [g1];exact ht⟩⟩
def zxH {t by_ g o e:Nat} {cs us:List vL} {F:List Nat} {x:α} {v:vL} {K:wD->Prop} (ht:tyI P t=some (Rep.size α,by_,Rep.agg α)) (hB:Blk g e w cs) (hr:rep F w us x) (hv:v=mkv α us) (ho:o+Rep.size α<=cs.length)
   (k:∀ w',Chg [g] w w'->Blk g e w' (cs.take o++us++cs.drop (o+us.length))->K w'):OPU P (Instr.storeAt t (.pointer (some ⟨g,o,none⟩)) v) w K:=by
 subst hv;have g0:w.heap[g]?=some (.cells cs.toArray e (0,0)):=hB;have:=ze4 (P:=P) ht hr g0 (by simpa using ho);exact ⟨_,this,k _ (zeB w g _) (setRow_heap w g _ _ e _ g0)⟩
class Flat (α:Type) [Rep α]:Prop where
 flat:∀ {F w cs} {x:α},rep F w cs x->F=[]
instance:Flat Int:=⟨λh=>h.1⟩
instance:Flat Bool:=⟨λh=>h.1⟩
instance:Flat ByteArray:=⟨λh=>h.1⟩
instance [Flat α] [Flat β]:Flat (α×β):=⟨by
 rintro _ _ _ _ ⟨F1,F2,c1,c2,rfl,rfl,h1,h2⟩;rw [Flat.flat h1,Flat.flat h2];rfl⟩
theorem Cells.flat [Flat α] {xs:List vL}:∀ {l:List α} {F:List Nat} {xs:List vL},Cells F w xs l->F=[]
 | [],_,_,⟨h,_⟩=>h
 | _ :: _,_,_,⟨F1,F2,c1,c2,hF,_,h1,h2⟩=>by rw [hF,Flat.flat h1,Cells.flat (xs:=xs) h2];rfl
def Cells.set {F:List Nat} {xs:List vL} {l:List α} (h:Cells F w xs l) (k:Nat) (hk:k<l.length) {G:List Nat} {cs:List vL} {x:α} (hr:rep G w cs x) [Flat α] :
   Cells [] w (xs.take (k*Rep.size α)++cs++xs.drop (k*Rep.size α+Rep.size α)) (l.set k x):=by
 have hF:=Cells.flat (xs:=xs) h;have hG:=Flat.flat hr;subst hF hG;have e:l=l.take k++(l[k] :: l.drop (k+1)):=by simp
 rw [e] at h;obtain ⟨_,_,x1,_,g0,rfl,h1,h2⟩:=Cells.split h;obtain ⟨rfl,rfl⟩:=qbQ.1 g0.symm;obtain ⟨_,_,c1,c2,g1,rfl,k1,k2⟩:=h2;obtain ⟨rfl,rfl⟩:=qbQ.1 g1.symm;have hl:x1.length=k*Rep.size α:=by rw [Cells.len h1,qaj];congr 1;omega
 have hc:=Rep.len k1;have e1:(x1++(c1++c2)).take (k*Rep.size α)=x1:=by rw [<-hl];exact List.take_left
 have e2:(x1++(c1++c2)).drop (k*Rep.size α+Rep.size α)=c2:=by
   rw [<-hl,<-hc,<-qaw,<-qag];exact List.drop_left
 rw [e1,e2];have:l.set k x=l.take k++(x :: l.drop (k+1)):=by rw [qbF];simp [hk]
 rw [this,qaw];exact Cells.append (F:=[]) (G:=[]) h1 ⟨[],[],cs,c2,rfl,rfl,hr,k2⟩
def zue {t e:TypeId} {by_:Nat} [Flat α] {F:List Nat} {v u:vL} {l:List α} {x:α} {k:Nat} {K:wD->Prop} (ht:P.underlying t=some (.slice e)) (he:tyI P e=some (Rep.size α,by_,Rep.agg α))
   (hm:Mine F w v l) (hk:k<l.length) (hx:OwnF [] w u x) (kk:∀ w',Chg F w w'->Mine F w' v (l.set k x)->K w') :
   RD P (Instr.indexAt t v (.int .i64 (k:Int))) w λp=>OPU P (Instr.storeAt e p u) w K:=by
 obtain ⟨⟨_,⟨_,cap,_,xs,rfl,h1,h2,hc,h4⟩,rfl⟩,hn,hw⟩:=hm;obtain ⟨us,hr,rfl⟩:=hx;rcases h4 with ⟨rfl,_⟩ | ⟨b,o,rfl,rfl,g2,hb⟩
 . simp at hk
 obtain ⟨cur,e',C⟩:=hw b sS;have g3:=Cells.flat (xs:=xs) hc;subst g3;have hlx:=Cells.len hc;have g4:=Rep.len hr;have g5:(k+1)*Rep.size α<=l.length*Rep.size α:=qbg _ oo;rw [qbp,qbN] at g5;have g9:=Rep.pos (α:=α)
 have r:∀ j,j<xs.length->cur[o+j]?=xs[j]?:=by
   intro j hj;have:=g2 j xs[j] (by simp [hj]);simpa [World.cell?,C,hj] using this
 have gb:o+xs.length<=cur.size:=by
   have hj:xs.length-1<xs.length:=oo;have:=r (xs.length-1) hj;rw [List.getElem?_eq_getElem hj] at this;have:=(Array.getElem?_eq_some_iff.1 this).1;omega
 refine zba (v:=.pointer (some ⟨b,o+k*Rep.size α,none⟩)) (λw' _=>?_) ⟨_,ze4 (e:=e') (cur:=cur) he hr C oo,kk _ ((zeB w b _).mono sS) ?_⟩
 . show (Instr.indexAt t (.slice (some ⟨b,o,none⟩) l.length cap) (.int .i64 (k:Int))).run P w'=_;rw [zcb ht he oo oo];simp
 refine ⟨⟨_,⟨some ⟨b,o,none⟩,cap,[],xs.take (k*Rep.size α)++us++xs.drop (k*Rep.size α+Rep.size α),sS,by simpa using h1,h2,?_,.inr ⟨b,o,rfl,rfl,?_,?_⟩⟩,rfl⟩,hn,?_⟩
 . have:=Cells.set hc k hk hr;exact Cells.keep this sS
 . intro j u hu;have g0:j<(xs.take (k*Rep.size α)++us++xs.drop (k*Rep.size α+Rep.size α)).length:=(List.getElem?_eq_some_iff.1 hu).1
   have g1:(xs.take (k*Rep.size α)++us++xs.drop (k*Rep.size α+Rep.size α)).length=xs.length:=by
     simp only [qag,qaj,qa8,g4];omega
   rw [g1] at g0;simp only [World.cell?,setRow_heap w b cur _ e' _ C];simp only [qcs,qa4,if_false,List.getElem?_toArray];rw [<-hu];by_cases hj1:j<k*Rep.size α
   . rw [qaw,List.getElem?_append_left (by simp only [qaj,qaH];omega),List.getElem?_take,qah oo,Array.getElem?_toList,r j g0,
       qaw,List.getElem?_append_left (by simp only [qaj];omega),List.getElem?_take,qah hj1]
   by_cases hj2:j<k*Rep.size α+Rep.size α
   . rw [qaw,List.getElem?_append_right (by simp only [qaj,qaH];omega),List.getElem?_append_left (by simp only [qaj,qaH];omega),
       qaw,List.getElem?_append_right (by simp only [qaj];omega),List.getElem?_append_left (by simp only [qaj];omega)]
     congr 1;simp only [qaj,qaH];omega
   rw [List.getElem?_append_right (by simp only [qag,qaj,qaH];omega),List.getElem?_append_right (l₁:=xs.take _++us) (by simp only [qag,qaj];omega),
     List.getElem?_drop,List.getElem?_drop,Array.getElem?_toList]
   have e1:o+k*Rep.size α+us.length+(o+j-(List.take (o+k*Rep.size α) cur.toList++us).length)=o+j:=by
     simp only [qag,qaj,qaH];omega
   have e2:k*Rep.size α+Rep.size α+(j-(List.take (k*Rep.size α) xs++us).length)=j:=by
     simp only [qag,qaj];omega
   rw [e1,e2,r j g0]
 . simpa [World.setRow] using hb
 intro c hc;simp only [qaa,qad,qaq] at hc;subst hc;exact ⟨_,e',setRow_heap w c cur _ e' _ C⟩
def RowF (F:List Nat) (e:TypeId) (w:wD) (v:vL) (l:List α):Prop:=
 ∃ xs Fi,w.ownsRow 0 e (Rep.size α) v l.length xs/\Cells Fi w xs l/\F=v.ownBlock.toList++Fi/\Wr Fi w
def Row (lo:Nat) (e:TypeId) (w:wD) (v:vL) (l:List α):Prop:=∃ F,RowF F e w v l/\F.Nodup/\∀ b∈F,lo<=b
def RowF.lt {F:List Nat} {e:TypeId} {v:vL} {l:List α} (h:RowF F e w v l):∀ b∈F,b<w.heap.size:=by
 obtain ⟨_,_,ho,hc,rfl,_⟩:=h;intro b hb;rcases qae.1 hb with hb | hb
 . exact (ho.lt b (by simpa [qcV] using hb)).2
 exact Cells.lt hc b hb
def RowF.keep {F:List Nat} {e:TypeId} {v:vL} {w':wD} {l:List α} (h:RowF F e w v l) (hk:∀ b∈F,w'.heap[b]?=w.heap[b]?):RowF F e w' v l:=by
 obtain ⟨xs,Fi,ho,hc,rfl,hw⟩:=h;refine ⟨xs,Fi,⟨ho.1,?_⟩,Cells.keep hc λb hb=>hk b (by simp [hb]),rfl,hw.keep λb hb=>hk b (by simp [hb])⟩;rcases ho.2 with hn | ⟨g,cap,cur,rfl,hb,hg,g0⟩
 . exact .inl hn
 exact .inr ⟨g,cap,cur,rfl,hb,by rw [hk g (by simp [Value.ownBlock])];exact hg,g0⟩
def RowF.ext {F:List Nat} {e:TypeId} {v:vL} {w':wD} {l:List α} (h:RowF F e w v l) (hx:Ext w w'):RowF F e w' v l:=h.keep λb hb=>hx.heap (h.lt b hb)
def Row.ext {lo:Nat} {e:TypeId} {v:vL} {w':wD} {l:List α} (h:Row lo e w v l) (hx:Ext w w'):Row lo e w' v l:=by
 obtain ⟨F,h,hn,hb⟩:=h;exact ⟨F,h.ext hx,hn,hb⟩
def RowF.own {F:List Nat} {e:TypeId} {v:vL} {l:List α} (h:RowF F e w v l):OwnF F w v l:=by
 have g0:=h.lt;obtain ⟨xs,Fi,ho,hc,rfl,_⟩:=h;rcases ho.2 with ⟨rfl,hn⟩ | ⟨g,cap,_,rfl,_,_,h1,h2,_,_⟩
 . have:l=[]:=qan hn;subst this;obtain ⟨rfl,rfl⟩:=hc;exact ⟨_,⟨none,0,[],[],rfl,lr _,z0 _,⟨rfl,rfl⟩,.inl ⟨rfl,rfl⟩⟩,rfl⟩
 refine ⟨_,⟨_,cap,Fi,xs,rfl,h1,h2,hc,.inr ⟨g,0,rfl,rfl,?_,g0 g (by simp [Value.ownBlock])⟩⟩,rfl⟩;intro j v hv;have:=ho.cells (g:=g) rfl j v hv;rwa [Addr.add_mid] at this
def RowF.wr {F:List Nat} {e:TypeId} {v:vL} {l:List α} (h:RowF F e w v l):Wr F w:=by
 obtain ⟨_,_,ho,_,rfl,hw⟩:=h;refine Wr.append (λ_ hb=>?_) hw;rcases ho.2 with ⟨rfl,_⟩ | ⟨_,_,cur,rfl,_,hg,_⟩
 . simp [Value.ownBlock] at hb
 simp [Value.ownBlock] at hb;subst hb;exact ⟨cur,e,hg⟩
def Row.own {lo:Nat} {e:TypeId} {v:vL} {l:List α} (h:Row lo e w v l):Own lo w v l:=by
 obtain ⟨F,h,hn,hb⟩:=h;exact ⟨F,⟨h.own,hn,h.wr⟩,hb⟩
def Row.is {lo:Nat} {e:TypeId} {v:vL} {l:List α} (h:Row lo e w v l):Is w v l:=h.own.is
def zjg {t e:TypeId} {by_:Nat} {K:vL->wD->Prop} (ht:P.underlying t=some (.slice e)) (he:tyI P e=some (Rep.size α,by_,Rep.agg α))
   (k:∀ a w',Ext w w'->Row (α:=α) w.heap.size e w' (.slice (some a) 0 0) []->K (.slice (some a) 0 0) w'):OP P (Instr.buildSlice t 0 #[]) w K:=by
 refine ⟨.slice (some ⟨w.heap.size,0,none⟩) 0 0,w.alloc (.cells #[] e),?_,k _ _ (zaX w _) ⟨[w.heap.size],⟨[],[],?_,⟨rfl,rfl⟩,rfl,Wr.nil _⟩,sS,sS⟩⟩
 . have h0:Array.range 0=#[]:=by apply qcn;simp
   simp [Instr.buildSlice,run_underlying ht,zaJ he,Instr.fill,newRow,h0]
 exact World.ownsRow_made w #[] 0 (z0 _) (z0 _) sS
def zlT {t ty e:TypeId} {s by_:Nat} {g:Bool} (ht:P.underlying t=some (.slice e)) (he:tyI P e=some (s,by_,g)) {v:vL} {n:Nat} {xs:List vL} (ho:w.ownsRow 0 e s v n xs) (a:Option Addr) (c:Nat) :
   (Builtin.append_ #[t,t] ty #[v,.slice a 0 c]).run P w=.ok v w:=by
 have hf:(Builtin.firstCells s 0 (.slice a 0 c)).run P w=.ok #[] w:=by
   cases a with
   | none=>rfl
   | some a=>simp [Builtin.firstCells,loadCells,loadCellsFrom]
 rcases ho.2 with ⟨rfl,rfl⟩ | ⟨g,_,_,rfl,_,_,g0,_⟩
 . simp [Builtin.append_,run_underlying ht,zaJ he,Builtin.lenOf,hf]
 simp [Builtin.append_,run_underlying ht,zaJ he,Builtin.lenOf,hf,g0,storeCells]
def zfD {t ty e:TypeId} {by_:Nat} {K:vL->wD->Prop} {v gh:vL} {l m:List α} {F:List Nat} (ht:P.underlying t=some (.slice e)) (he:tyI P e=some (Rep.size α,by_,Rep.agg α)) (hz:(P.info? e).map (λi=>(i.zero.map (·.cells.size)))=some (some (Rep.size α)))
   (hr:RowF F e w v l) (hn:F.Nodup) {a:Option Addr} {c:Nat} {xs:List vL} {G:List Nat} (hs:gh=.slice a m.length c) (hc:Cells G w xs m) (ha:m=[]\/∃ b o,a=some ⟨b,o,none⟩/\w.rangeAt b o xs)
   (hG:Wr G w) (hd:(G++F).Nodup) (hm:l.length+m.length<=maxLen) (hb:(l.length+m.length)*by_<=140737488355328)
   (k:∀ v' w' F',Chg v.ownBlock.toList w w'->(∀ a,v=.slice a l.length l.length->Ext w w')->RowF F' e w' v' (l++m)->F'.Nodup->(∀ b∈F',b∈F\/b∈G\/w.heap.size<=b)->K v' w'):OP P (Builtin.append_ #[t,t] ty [v,gh].toArray) w K:=by
 subst hs;obtain ⟨O,Fi,ho,g3,rfl,gc⟩:=hr;by_cases hm0:m=[]
 . subst hm0;obtain ⟨rfl,rfl⟩:=hc;refine ⟨v,w,zlT ht he ho a c,k v w _ (Chg.refl _ _) (λ_ _=>xrf w) (by simpa using ⟨O,Fi,ho,g3,rfl,gc⟩) hn (λb hb=>.inl hb)⟩
 rcases ha with h | ⟨b,o,rfl,U⟩
 . exact absurd h hm0
 obtain ⟨i,_,hi,_,hs,V,_⟩:=zdE he;simp only [hi,qcH,qao] at hz;obtain ⟨z,hz,gi⟩:=qaQ.1 hz
 obtain ⟨v',w',C,g0,g1,_⟩:=run_append_own (P:=P) w 0 t ty e i z (Rep.size α) by_ ht hi hz hs V gi Rep.pos v l.length O ho ⟨b,o,none⟩ m.length c xs (Cells.len hc)
   (λj u hu=>by rw [Addr.add_mid];exact U j u hu) (Cells.one hc) hm hb (z0 _)
 have I:=zqK g1
 have kF:∀ b∈Fi,w'.heap[b]?=w.heap[b]?:=λb hb=>I.block b (Cells.lt g3 b hb) (λe=>by
   rw [qas] at hn;exact hn.2.2 b e b hb rfl)
 have kG:∀ b∈G,w'.heap[b]?=w.heap[b]?:=λb hb=>I.block b (Cells.lt hc b hb) (λe=>by
   rw [qas] at hd;exact hd.2.2 b hb b (by simp only [qae];exact .inl e) rfl)
 have gd:∀ q,v'.ownBlock=some q->v.ownBlock=some q\/w.heap.size<=q:=by
   intro q hq;rcases qay q w.heap.size with _ | gj
   . left;by_cases hv0:v.ownBlock=some q
     . exact hv0
     exfalso;rcases ho.2 with ⟨rfl,gf⟩ | ⟨g,cap,cur,rfl,_,gg,h1,h2,h3,h4⟩
     . -- grown out of nil: the block is new
       have hx0:O=[]:=qan (by simpa [gf] using ho.1);have g4:0<m.length:=qaO.2 hm0;have D:=run_append_nil (P:=P) w t ty e i z ht hi hz ⟨b,o,none⟩ m.length c xs (by rw [hs];exact Cells.len hc) (λj u hu=>by rw [Addr.add_mid];exact U j u hu) g4 (by rw [zaj] at hm;omega) (by rw [V];have:=hb;rw [qbp] at this;omega);have r:(Builtin.append_ #[t,t] ty #[.slice none 0 0,.slice (some ⟨b,o,none⟩) m.length c]).run P w=.ok v' w':=C;rw [D] at r;simp only [Result.ok.injEq] at r;rw [<-r.1] at hq;simp [Value.ownBlock] at hq;omega
     by_cases hroom:l.length+m.length<=cap
     . have g5:l.length*i.size+xs.length<=cur.size:=by rw [Cells.len hc,h3,hs,<-qbp];exact qbg _ hroom
       have D:=run_append_room (P:=P) w t ty e i ht hi g l.length cap cur gg ⟨b,o,none⟩ m.length c xs (by rw [hs];exact Cells.len hc) (λj u hu=>by rw [Addr.add_mid];exact U j u hu) (Cells.one hc) hroom g5;have r:(Builtin.append_ #[t,t] ty #[.slice (some ⟨g,0,none⟩) l.length cap,.slice (some ⟨b,o,none⟩) m.length c]).run P w=.ok v' w':=C;rw [D] at r;simp only [Result.ok.injEq] at r;rw [<-r.1] at hq;simp [Value.ownBlock] at hq hv0;exact hv0 hq
     have D:=run_append_grow (P:=P) w t ty e i z ht hi hz ⟨g,0,none⟩ l.length cap O (by rw [hs];exact ho.1) (ho.cells (g:=g) rfl) ⟨b,o,none⟩ m.length c xs (by rw [hs];exact Cells.len hc) (λj u hu=>by rw [Addr.add_mid];exact U j u hu) oo (by rw [zaj] at hm;omega) (growslice_fits oo (by rw [V];exact hb));have r:(Builtin.append_ #[t,t] ty #[.slice (some ⟨g,0,none⟩) l.length cap,.slice (some ⟨b,o,none⟩) m.length c]).run P w=.ok v' w':=C;rw [D] at r;simp only [Result.ok.injEq] at r;rw [<-r.1] at hq;simp [Value.ownBlock] at hq;omega
   exact .inr gj
 have g2:∀ a,v=.slice a l.length l.length->Ext w w':=by
   intro a gl;have g4:0<m.length:=qaO.2 hm0;rcases ho.2 with ⟨rfl,gf⟩ | ⟨g,cap,cur,rfl,_,gg,h1,h2,h3,h4⟩
   . have D:=run_append_nil (P:=P) w t ty e i z ht hi hz ⟨b,o,none⟩ m.length c xs (by rw [hs];exact Cells.len hc) (λj u hu=>by rw [Addr.add_mid];exact U j u hu) g4 (by rw [zaj] at hm;omega) (by rw [V];have:=hb;rw [qbp] at this;omega);have r:(Builtin.append_ #[t,t] ty #[.slice none 0 0,.slice (some ⟨b,o,none⟩) m.length c]).run P w=.ok v' w':=C;rw [D] at r;simp only [Result.ok.injEq] at r;rw [<-r.2];exact (zag w).trans (zaX w.drew _)
   simp only [Value.slice.injEq,true_and] at gl;have D:=run_append_grow (P:=P) w t ty e i z ht hi hz ⟨g,0,none⟩ l.length cap O (by rw [hs];exact ho.1) (ho.cells (g:=g) rfl) ⟨b,o,none⟩ m.length c xs (by rw [hs];exact Cells.len hc) (λj u hu=>by rw [Addr.add_mid];exact U j u hu) oo (by rw [zaj] at hm;omega) (growslice_fits oo (by rw [V];exact hb));have r:(Builtin.append_ #[t,t] ty #[.slice (some ⟨g,0,none⟩) l.length cap,.slice (some ⟨b,o,none⟩) m.length c]).run P w=.ok v' w':=C;rw [D] at r;simp only [Result.ok.injEq] at r;rw [<-r.2];exact (zag w).trans (zaX w.drew _)
 refine ⟨v',w',C,k v' w' (v'.ownBlock.toList++(Fi++G)) I g2 ⟨O++xs,Fi++G,by simpa using g0,Cells.append (Cells.keep g3 kF) (Cells.keep hc kG),rfl,(gc.keep kF).append (hG.keep kG)⟩ ?_ ?_⟩
 . have g9:∀ b∈Fi,b<w.heap.size:=Cells.lt g3;have gb:∀ b∈G,b<w.heap.size:=Cells.lt hc;rw [qas] at hd hn;rw [qas,qas];refine ⟨by cases v'.ownBlock<;>simp,⟨hn.2.1,hd.1,λx hx y hy e=>hd.2.2 y hy x (by simp [hx]) e.symm⟩,?_⟩;intro x hx y hy e;subst e;rcases gd x (by simpa [qcV] using hx) with h | h
   . rcases qae.1 hy with hy | hy
     . exact hn.2.2 x (by simp [h]) x hy rfl
     exact hd.2.2 x hy x (by simp [h]) rfl
   rcases qae.1 hy with hy | hy
   . have:=g9 x hy;omega
   have:=gb x hy;omega
 intro x hx;rcases qae.1 hx with hx | hx
 . rcases gd x (by simpa [qcV] using hx) with h | h
   . exact .inl (by simp [h])
   exact .inr (.inr h)
 rcases qae.1 hx with hx | hx
 . exact .inl (by simp [hx])
 exact .inr (.inl hx)
def zpe [Flat α] {t ty e:TypeId} {by_:Nat} {K:vL->wD->Prop} {a:Addr} {g2:vL} {m:List α} {lo:Nat} (ht:P.underlying t=some (.slice e)) (he:tyI P e=some (Rep.size α,by_,Rep.agg α)) (hz:(P.info? e).map (λi=>(i.zero.map (·.cells.size)))=some (some (Rep.size α)))
   (hr:Row (α:=α) lo e w (.slice (some a) 0 0) []) (hs:Is w0 g2 m) (hx:Ext w0 w) (gd:lo<=w.heap.size) (hb:m.length*by_<=140737488355328)
   (k:∀ v' w',Ext w w'->Row lo e w' v' m->K v' w'):OP P (Builtin.append_ #[t,t] ty [.slice (some a) 0 0,g2].toArray) w K:=by
 obtain ⟨_,_,_,xs,rfl,_,_,hc,h4⟩:=zcE hs;obtain ⟨_,hF,g1,g3⟩:=hr;have g4:=Cells.flat (xs:=xs) hc;subst g4;refine zfD (α:=α) (m:=m) ht he hz hF g1 rfl (Cells.keep hc sS) ?_ (Wr.nil _) (by simpa using g1) (by simp only [qaC];omega) (by simpa using hb) λv2 w2 F' _ g0 g5 g9 gb=>?_
 . rcases h4 with h4 | ⟨b,o,ha,gc,_⟩
   . exact .inl h4
   exact .inr ⟨b,o,ha,zbQ gc hx⟩
 refine k v2 w2 (g0 _ rfl) ⟨F',by simpa using g5,g9,λb hb=>?_⟩;rcases gb b hb with h | h | h
 . exact g3 b h
 . cases h
 exact qat gd h
end
end Go.Sh
namespace Go.Sh
open Go.RowKit (Below)
open Rep (rep)
variable {G G':List Nat} {b n n' o o':Nat} {w w':wD}
def OAt {α:Type} [Rep α] (G:List Nat) (w:wD) (b o:Nat) (x:α):Prop:=
 ∃ cs,rep G w cs x/\w.rangeAt b o cs/\G.Nodup/\Wr G w/\b∉G/\∃ c e,w.heap[b]?=some (.cells c e (0,0))
structure ChgAt (b o n:Nat) (G:List Nat) (w w':wD):Prop where
 chg:Chg (b :: G) w w'
 cell:∀ c e,w.heap[b]?=some (.cells c e (0,0))->∃ c',w'.heap[b]?=some (.cells c' e (0,0))/\∀ j,(j<o\/o+n<=j)->c'[j]?=c[j]?
def ChgAt.mono (h:ChgAt b o n G w w') (ho:o'<=o) (hn:o+n<=o'+n') (hG:∀ c∈G,c∈G'):ChgAt b o' n' G' w w':=
 ⟨h.chg.mono λx hx=>by
   rcases qaa.1 hx with rfl | hx
   . simp
   . exact qbS _ (hG x hx),λc e hc=>by
   obtain ⟨c',h1,h2⟩:=h.cell c e hc;exact ⟨c',h1,λj hj=>h2 j oo⟩⟩
section
variable {P:pG} {w w0:wD} {α β:Type} [Rep α] [Rep β]
def ChgAt.range {b o n o':Nat} {G:List Nat} {w':wD} {cs:List vL} (h:ChgAt b o n G w w') (hw:∃ c e,w.heap[b]?=some (.cells c e (0,0))) (hr:w.rangeAt b o' cs) (hd:o'+cs.length<=o\/o+n<=o'):w'.rangeAt b o' cs:=by
 obtain ⟨c,e,hc⟩:=hw;obtain ⟨_,h1,h2⟩:=h.cell c e hc;intro j v hv;have hj:j<cs.length:=(List.getElem?_eq_some_iff.1 hv).1;have:=hr j v hv;simp only [World.cell?,hc,h1] at this ⊢;simp only [qcs,qa4,if_false] at this ⊢;rw [h2 (o'+j) oo];exact this
def OAt.at {G:List Nat} {b o:Nat} {x:α} (h:OAt G w b o x):At w b o x:=by
 obtain ⟨cs,hr,ha,_⟩:=h;exact ⟨G,cs,hr,ha⟩
def OAt.lt {G:List Nat} {b o:Nat} {x:α} (h:OAt G w b o x):b<w.heap.size:=by
 obtain ⟨_,_,_,_,_,_,_,_,hc⟩:=h;exact (Array.getElem?_eq_some_iff.1 hc).1
structure Lens (H:List Nat->wD->α->Prop) (S:List Nat) (w:wD) (b o:Nat) (G:List Nat) (y:β) (upd:β->α):Prop where
 here:OAt G w b o y
 sub:∀ c∈b :: G,c∈S
 back:∀ w' G' y',ChgAt b o (Rep.size β) G w w'->OAt G' w' b o y'->(∀ c∈G',c∈G\/c∉S)->∃ F',H F' w' (upd y')/\∀ c∈F',c∈S\/c∈G'
abbrev MH (v:vL):List Nat->wD->α->Prop:=λF w x=>Mine F w v x
abbrev VH (g:Nat):List Nat->wD->α->Prop:=λF w x=>OAt F w g 0 x
def Lens.var {F:List Nat} {g:Nat} {x:α} (h:OAt F w g 0 x):Lens (VH g) (g :: F) w g 0 F x (λy=>y):=
 ⟨h,λ_ h=>h,λw' G' y' _ hO _=>⟨G',hO,λc hc=>.inr hc⟩⟩
def zqL {F1 F2 G G':List Nat} {b:Nat} (h:(b :: (F1++(G++F2))).Nodup) (hG:G'.Nodup) (hs:∀ c∈G',c∈G\/c∉b :: (F1++(G++F2))):(b :: (F1++(G'++F2))).Nodup:=by
 rw [qaP] at h ⊢;obtain ⟨hb,h⟩:=h;rw [qas] at h ⊢;obtain ⟨h1,h2,h3⟩:=h;rw [qas] at h2 ⊢;obtain ⟨_,h5,h6⟩:=h2;refine ⟨λhm=>?_,h1,⟨hG,h5,λa ha c hc e=>?_⟩,λa ha c hc e=>?_⟩
 . rcases qae.1 hm with hm | hm
   . exact hb (by simp [hm])
   rcases qae.1 hm with hm | hm
   . rcases hs _ hm with h' | h'
     . exact hb (by simp [h'])
     exact h' sS
   exact hb (by simp [hm])
 . subst e;rcases hs _ ha with h' | h'
   . exact h6 a h' a hc rfl
   exact h' (by simp [hc])
 subst e;rcases qae.1 hc with hc | hc
 . rcases hs _ hc with h' | h'
   . exact h3 a ha a (by simp [h']) rfl
   exact h' (by simp [ha])
 exact h3 a ha a (by simp [hc]) rfl
def zxI {F:List Nat} {v:vL} {l:List α} {k:Nat} (hm:Mine F w v l) (hk:k<l.length) :
   ∃ b a cap G,v=.slice (some ⟨b,a,none⟩) l.length cap/\Lens (MH v) F w b (a+k*Rep.size α) G l[k] (λy=>l.set k y):=by
 obtain ⟨⟨_,⟨a,cap,_,_,rfl,h1,h2,hc,h4⟩,rfl⟩,hn,hw⟩:=hm;rcases h4 with ⟨rfl,_⟩ | ⟨b,o,rfl,rfl,gg,_⟩
 . simp at hk
 have e:l=l.take k++(l[k] :: l.drop (k+1)):=by simp
 have gb:=hc;rw [e] at gb;obtain ⟨F1,_,x1,_,gh,gi,c1,gj⟩:=Cells.split gb;obtain ⟨G,F2,cg,x2,rfl,rfl,hg,c2⟩:=gj;subst gh gi;have gc:x1.length=k*Rep.size α:=by rw [Cells.len c1,qaj];congr 1;omega
 have hlg:=Rep.len hg;have gl:=hn;rw [qaP] at hn;obtain ⟨g2,hn⟩:=hn;rw [qas] at hn;obtain ⟨_,gd,gp⟩:=hn;rw [qas] at gd;obtain ⟨gq,_,gr⟩:=gd;obtain ⟨r1,r2⟩:=zaK gg;obtain ⟨rg,r3⟩:=zaK r2;rw [gc] at rg r3;have g3:∃ c e,w.heap[b]?=some (.cells c e (0,0)):=hw b sS;refine ⟨b,o,cap,G,rfl,⟨cg,hg,rg,gq,hw.sub sc,λh=>g2 (by simp [h]),g3⟩,by simp +contextual,λw' G' y' g1 hO hs=>?_⟩;obtain ⟨g4,gf,gs,g5,g9,_,g0⟩:=hO;have gt:=Rep.len gf
 have C:∀ c∈F1,w'.heap[c]?=w.heap[c]?:=λc I=>by
   refine g1.chg.block c (Cells.lt c1 c I) λhm=>?_;rcases qaa.1 hm with rfl | hm
   . exact g2 (by simp [I])
   exact gp c I c (by simp [hm]) rfl
 have D:∀ c∈F2,w'.heap[c]?=w.heap[c]?:=λc I=>by
   refine g1.chg.block c (Cells.lt c2 c I) λhm=>?_;rcases qaa.1 hm with rfl | hm
   . exact g2 (by simp [I])
   exact gr c hm c I rfl
 refine ⟨b :: (F1++(G'++F2)),⟨⟨_,⟨some ⟨b,o,none⟩,cap,F1++(G'++F2),x1++(g4++x2),sS,by simpa using h1,h2,?_,.inr ⟨b,o,rfl,rfl,?_,?_⟩⟩,rfl⟩,zqL gl g5 hs,?_⟩,?_⟩
 . have:l.set k y'=l.take k++(y' :: l.drop (k+1)):=by rw [qbF];simp [hk]
   rw [this];exact Cells.append (Cells.keep c1 C) ⟨G',F2,g4,x2,rfl,rfl,gf,Cells.keep c2 D⟩
 . refine zfV (g1.range g3 r1 (.inl oo)) (zfV (by rw [gc];exact gs) ?_);have e3:o+x1.length+g4.length=o+k*Rep.size α+cg.length:=oo;rw [e3];exact g1.range g3 r3 (.inr oo)
 . obtain ⟨c,e,h⟩:=g0;exact (Array.getElem?_eq_some_iff.1 h).1
 . intro c r;rcases qaa.1 r with rfl | r
   . exact g0
   rcases qae.1 r with r | r
   . exact (hw.sub (G:=F1) sc).keep C c r
   rcases qae.1 r with r | r
   . exact g9 c r
   exact (hw.sub (G:=F2) sc).keep D c r
 intro c r;rcases qaa.1 r with rfl | r
 . exact .inl sS
 rcases qae.1 r with r | r
 . exact .inl (by simp [r])
 rcases qae.1 r with r | r
 . exact .inr r
 exact .inl (by simp [r])
section pair
variable {γ:Type}
def Lens.fst {H:List Nat->wD->γ->Prop} {F:List Nat} {b o:Nat} {G:List Nat} {p:α×β} {upd:α×β->γ} (h:Lens H F w b o G p upd) :
   ∃ G1,Lens H F w b o G1 p.1 (λy=>upd (y,p.2)):=by
 obtain ⟨⟨_,⟨G1,G2,c1,c2,rfl,rfl,h1,h2⟩,hr,hn,hw,hb,g9⟩,C,g0⟩:=h;obtain ⟨r1,r2⟩:=zaK hr;have gb:=Rep.len h1;have:=Rep.len h2;have:=hn;rw [qas] at hn;obtain ⟨gg,gh,gc⟩:=hn;simp only [qae,not_or] at hb;refine ⟨G1,⟨c1,h1,r1,gg,hw.sub sc,hb.1,g9⟩,λc hc=>C c (by rcases qaa.1 hc with rfl | hc<;>simp_all),λw' G' y' g1 hO hs=>?_⟩;obtain ⟨gd,gf,gi,g2,g3,g4,g5⟩:=hO
 have r:∀ c∈G2,w'.heap[c]?=w.heap[c]?:=λc hc=>by
   refine g1.chg.block c (Rep.lt h2 c hc) λhm=>?_;rcases qaa.1 hm with rfl | hm
   . exact hb.2 hc
   exact gc c hm c hc rfl
 have gj:∀ c∈G'++G2,c∈G1++G2\/c∉F:=λc hc=>by
   rcases qae.1 hc with hc | hc
   . rcases hs c hc with h | h
     . exact .inl (by simp [h])
     exact .inr h
   exact .inl (by simp [hc])
 have gl:(G'++G2).Nodup:=by
   rw [qas];refine ⟨g2,gh,λa ha c hc e=>?_⟩;subst e;rcases hs a ha with h | h
   . exact gc a h a hc rfl
   exact h (C a (by simp [hc]))
 obtain ⟨F',hM,gp⟩:=g0 w' (G'++G2) (y',p.2) (g1.mono (lr _) (by simp only [Rep.size];omega) sc)
   ⟨gd++c2,⟨G',G2,gd,c2,rfl,rfl,gf,Rep.keep h2 r⟩,zfV gi (by
     rw [Rep.len gf,<-gb];exact g1.range g9 r2 (.inr (by rw [gb];exact qaz _))),gl,g3.append ((hw.sub sc).keep r),by simp [g4,hb.2],g5⟩ gj
 refine ⟨F',hM,λc hc=>?_⟩;rcases gp c hc with h | h
 . exact .inl h
 rcases qae.1 h with h | h
 . exact .inr h
 exact .inl (C c (by simp [h]))
def Lens.snd {H:List Nat->wD->γ->Prop} {F:List Nat} {b o:Nat} {G:List Nat} {p:α×β} {upd:α×β->γ} (h:Lens H F w b o G p upd) :
   ∃ G1,Lens H F w b (o+Rep.size α) G1 p.2 (λy=>upd (p.1,y)):=by
 obtain ⟨⟨_,⟨G1,G2,c1,c2,rfl,rfl,h1,h2⟩,hr,hn,hw,hb,gb⟩,C,g0⟩:=h;obtain ⟨r1,r2⟩:=zaK hr;have g1:=Rep.len h1;have:=Rep.len h2;have:=hn;rw [qas] at hn;obtain ⟨gf,gg,gc⟩:=hn;simp only [qae,not_or] at hb;rw [g1] at r2;refine ⟨G2,⟨c2,h2,r2,gg,hw.sub sc,hb.2,gb⟩,λc hc=>C c (by rcases qaa.1 hc with rfl | hc<;>simp_all),λw' G' y' g2 hO hs=>?_⟩;obtain ⟨gd,gh,gi,g3,g4,g5,g9⟩:=hO
 have r:∀ c∈G1,w'.heap[c]?=w.heap[c]?:=λc hc=>by
   refine g2.chg.block c (Rep.lt h1 c hc) λhm=>?_;rcases qaa.1 hm with rfl | hm
   . exact hb.1 hc
   exact gc c hc c hm rfl
 have gj:∀ c∈G1++G',c∈G1++G2\/c∉F:=λc hc=>by
   rcases qae.1 hc with hc | hc
   . exact .inl (by simp [hc])
   rcases hs c hc with h | h
   . exact .inl (by simp [h])
   exact .inr h
 have gl:(G1++G').Nodup:=by
   rw [qas];refine ⟨gf,g3,λa ha c hc e=>?_⟩;subst e;rcases hs a hc with h | h
   . exact gc a ha a h rfl
   exact h (C a (by simp [ha]))
 obtain ⟨F',hM,gp⟩:=g0 w' (G1++G') (p.1,y') (g2.mono oo (by simp only [Rep.size];omega) sc)
   ⟨c1++gd,⟨G1,G',c1,gd,rfl,rfl,Rep.keep h1 r,gh⟩,zfV (g2.range gb r1 (.inl (by rw [g1];exact qaz _))) (by rw [g1];exact gi),gl,((hw.sub sc).keep r).append g4,by simp [hb.1,g5],g9⟩ gj
 refine ⟨F',hM,λc hc=>?_⟩;rcases gp c hc with h | h
 . exact .inl h
 rcases qae.1 h with h | h
 . exact .inl (C c (by simp [h]))
 exact .inr h
def Lens.row {H:List Nat->wD->γ->Prop} {F:List Nat} {b o:Nat} {G:List Nat} {l:List β} {upd:List β->γ} (h:Lens H F w b o G l upd) :
   ∃ u,Mine G w u l/\w.rangeAt b o [u]/\(∀ c∈G,c∈F) /\
     ∀ w' G' l',Chg G w w'->Mine G' w' u l'->(∀ c∈G',c∈G\/c∉F)->∃ F',H F' w' (upd l')/\∀ c∈F',c∈F\/c∈G':=by
 obtain ⟨⟨cs,g0,hr,hn,hw,hb,g9⟩,g1,g2⟩:=h;have gd:∃ u,cs=[u]:=by obtain ⟨a,cap,Fi,xs,rfl,_⟩:=g0;exact ⟨_,rfl⟩
 obtain ⟨u,rfl⟩:=gd;refine ⟨u,⟨⟨_,g0,rfl⟩,hn,hw⟩,hr,λc hc=>g1 c (by simp [hc]),λw' G' l' gb hM hs=>?_⟩;have gf:b<w.heap.size:=by obtain ⟨c,e,h⟩:=g9;exact (Array.getElem?_eq_some_iff.1 h).1
 have g3:w'.heap[b]?=w.heap[b]?:=gb.block b gf hb;obtain ⟨⟨gg,r,gc⟩,gh,gi⟩:=hM
 have g4:gg=[u]:=by
   obtain ⟨a,cap,Fi,xs,rfl,_⟩:=r;simp only [mkv,Rep.agg,cond_false,qbd] at gc;rw [gc]
 subst g4
 have g5:b∉G':=λhm=>by
   rcases hs b hm with h | h
   . exact hb h
   exact h (g1 b sS)
 exact g2 w' G' l' ⟨gb.mono sc,λc e hc=>⟨c,by rw [g3];exact hc,λ_ _=>rfl⟩⟩
   ⟨_,r,zbo hr g3,gh,gi,g5,by obtain ⟨c,e,h⟩:=g9;exact ⟨c,e,by rw [g3];exact h⟩⟩ hs
def Lens.elem {H:List Nat->wD->γ->Prop} {F:List Nat} {b o:Nat} {G:List Nat} {l:List β} {upd:List β->γ} (h:Lens H F w b o G l upd) {k:Nat} (hk:k<l.length) :
   ∃ u b2 a cap G2,w.rangeAt b o [u]/\Is w u l/\u=.slice (some ⟨b2,a,none⟩) l.length cap/\Lens H F w b2 (a+k*Rep.size β) G2 l[k] (λy=>upd (l.set k y)):=by
 obtain ⟨u,hM,hr,hG,hb⟩:=h.row;obtain ⟨b2,a,cap,G2,hu,hL⟩:=zxI hM hk;refine ⟨u,b2,a,cap,G2,hr,hM.is,hu,hL.here,λc hc=>hG c (hL.sub c hc),λw' G' y' g0 hO hs=>?_⟩
 obtain ⟨F1,g2,g1⟩:=hL.back w' G' y' g0 hO λc hc=>by
   rcases hs c hc with h | h
   . exact .inl h
   exact .inr λe=>h (hG c e)
 obtain ⟨F',g3,g4⟩:=hb w' F1 _ (g0.chg.mono hL.sub) g2 λc hc=>by
   rcases g1 c hc with h | h
   . exact .inl h
   rcases hs c h with h | h
   . exact .inl (hL.sub c (by simp [h]))
   exact .inr h
 refine ⟨F',g3,λc hc=>?_⟩;rcases g4 c hc with h | h
 . exact .inl h
 rcases g1 c h with h | h
 . exact .inl (hG c h)
 exact .inr h
end pair
def zuf {t by_ b o:Nat} {G:List Nat} {y y':β} {u:vL} {G':List Nat} {K:wD->Prop} (ht:tyI P t=some (Rep.size β,by_,Rep.agg β)) (h:OAt G w b o y)
   (hu:OwnF G' w u y') (hn:G'.Nodup) (g3:Wr G' w) (hb:b∉G') (k:∀ w',ChgAt b o (Rep.size β) [] w w'->OAt G' w' b o y'->K w'):OPU P (Instr.storeAt t (.pointer (some ⟨b,o,none⟩)) u) w K:=by
 obtain ⟨us,hr,rfl⟩:=hu;obtain ⟨cs,g4,ha,_,_,_,c,e,hc⟩:=h;have hl0:=Rep.len g4;have hlu:=Rep.len hr;have g5:=Rep.pos (α:=β)
 have g0:∀ j,j<cs.length->c[o+j]?=cs[j]?:=by
   intro j hj;have:=ha j cs[j] (by simp [hj]);simpa [World.cell?,hc,hj] using this
 have g1:o+Rep.size β<=c.size:=by
   have hj:cs.length-1<cs.length:=oo;have:=g0 (cs.length-1) hj;rw [List.getElem?_eq_getElem hj] at this;have:=(Array.getElem?_eq_some_iff.1 this).1;omega
 have g9:=ze4 (P:=P) (e:=e) (cur:=c) ht hr hc g1;have C:=setRow_heap w b c ((c.toList.take o++us++c.toList.drop (o+us.length)).toArray) e _ hc;refine ⟨_,g9,k _ ⟨(zeB w b _).mono sS,λ_ _ g2=>?_⟩ ?_⟩
 . rw [hc] at g2;simp only [qao,Obj.cells.injEq,and_true] at g2;obtain ⟨rfl,rfl⟩:=g2;refine ⟨_,C,λj hj=>?_⟩;simp only [List.getElem?_toArray];rcases hj with hj | hj
   . rw [qaw,List.getElem?_append_left (by simp only [qaj,qaH];omega),List.getElem?_take,qah hj,Array.getElem?_toList]
   rw [List.getElem?_append_right (by simp only [qag,qaj,qaH];omega),List.getElem?_drop,Array.getElem?_toList];congr 1;simp only [qag,qaj,qaH];omega
 have r:∀ x∈G',(w.setRow b ((c.toList.take o++us++c.toList.drop (o+us.length)).toArray)).heap[x]?=w.heap[x]?:=λx hx=>
   (zeB w b _).block x (g3.lt x hx) (by simp;exact λe=>hb (e▸hx))
 refine ⟨us,Rep.keep hr r,λj _ hv=>?_,hn,g3.keep r,hb,_,e,C⟩;have hj:j<us.length:=(List.getElem?_eq_some_iff.1 hv).1;simp only [World.cell?,C];simp only [qcs,qa4,if_false,List.getElem?_toArray];rw [qaw,List.getElem?_append_right (by simp only [qaj,qaH];omega),List.getElem?_append_left (by simp only [qaj,qaH];omega),<-hv];congr 1;simp only [qaj,qaH];omega
def zjh {t by_ b o:Nat} {H:List Nat->wD->α->Prop} {F G:List Nat} {y y':β} {upd:β->α} {u:vL} {G':List Nat} {K:wD->Prop} (ht:tyI P t=some (Rep.size β,by_,Rep.agg β)) (h:Lens H F w b o G y upd)
   (hu:Mine G' w u y') (hs:∀ c∈G',c∈G\/c∉F) (k:∀ w',Chg F w w'->(∃ F',H F' w' (upd y')/\∀ c∈F',c∈F\/c∈G')->K w'):OPU P (Instr.storeAt t (.pointer (some ⟨b,o,none⟩)) u) w K:=by
 have g0:b∉G':=λhm=>by
   rcases hs b hm with h' | h'
   . obtain ⟨_,_,_,_,_,hb,_⟩:=h.here;exact hb h'
   exact h' (h.sub b sS)
 refine zuf ht h.here hu.own hu.nodup hu.wr g0 λw' g1 hO=>k w' (g1.chg.mono λc hc=>h.sub c (by simp at hc;simp [hc])) ?_;obtain ⟨F',h1,h2⟩:=h.back w' G' y' (g1.mono (lr _) (lr _) sS) hO hs;exact ⟨F',h1,h2⟩
end
class RepZ (α:Type) [Rep α] where
 zv:α
 zc:List vL
 zr:∀ w,rep [] w zc zv
instance:RepZ Int:=⟨0,[.int .i64 0],λ_=>⟨rfl,rfl,by unfold I64;omega⟩⟩
instance:RepZ Bool:=⟨false,[.bool false],λ_=>⟨rfl,rfl⟩⟩
instance:RepZ ByteArray:=⟨ByteArray.empty,[.string ByteArray.empty],λ_=>⟨rfl,rfl,qbP _⟩⟩
instance {α:Type} [Rep α]:RepZ (List α):=⟨[],[.slice none 0 0],λ_=>⟨none,0,[],[],rfl,lr _,z0 _,⟨rfl,rfl⟩,.inl ⟨rfl,rfl⟩⟩⟩
instance {α β:Type} [Rep α] [Rep β] [RepZ α] [RepZ β]:RepZ (α×β):=⟨((RepZ.zv:α),(RepZ.zv:β)),RepZ.zc α++RepZ.zc β,λw=>⟨[],[],_,_,rfl,rfl,RepZ.zr w,RepZ.zr w⟩⟩
def OwnI {α:Type} [Rep α] (lo hi:Nat) (w:wD) (v:vL) (x:α):Prop:=∃ F,Mine F w v x/\∀ b∈F,lo<=b/\b<hi
structure ChgI (lo hi:Nat) (w w':wD):Prop where
 os:w'.os=w.os
 tape:w'.tape=w.tape
 output:w'.output=w.output
 size:w.heap.size<=w'.heap.size
 block:∀ b,b<w.heap.size->(b<lo\/hi<=b)->w'.heap[b]?=w.heap[b]?
section
variable {w w':wD} {α:Type} [Rep α] {lo hi a b:Nat} {v:vL} {x:α}
def Chg.toI {F:List Nat} (h:Chg F w w') (hF:∀ b∈F,lo<=b/\b<hi):ChgI lo hi w w':=
 ⟨h.os,h.tape,h.output,h.size,λi hi' ho=>h.block i hi' λe=>by have:=hF i e;omega⟩
def Ext.toI (h:Ext w w'):ChgI lo hi w w':=⟨h.os,h.tape,h.output,h.size,λi hi' _=>h.block i hi'⟩
def ChgI.refl (w:wD):ChgI lo hi w w:=⟨rfl,rfl,rfl,lr _,λ_ _ _=>rfl⟩
def ChgI.trans {w'':wD} (h:ChgI lo hi w w') (k:ChgI lo hi w' w''):ChgI lo hi w w'':=
 ⟨k.os.trans h.os,k.tape.trans h.tape,k.output.trans h.output,qat h.size k.size,λi hi' ho=>(k.block i (qap hi' h.size) ho).trans (h.block i hi' ho)⟩
def ChgI.mono {lo' hi':Nat} (h:ChgI lo hi w w') (h1:lo'<=lo) (h2:hi<=hi'):ChgI lo' hi' w w':=
 ⟨h.os,h.tape,h.output,h.size,λi hi' ho=>h.block i hi' oo⟩
def Ext.chgI {c:wD} (h:Ext w w') (k:ChgI lo hi w' c) (hl:w.heap.size<=lo):Ext w c:=
 ⟨k.os.trans h.os,k.tape.trans h.tape,k.output.trans h.output,qat h.size k.size,λi hi'=>(k.block i (qap hi' h.size) oo).trans (h.block i hi')⟩
def Own.toI (h:Own lo w v x):OwnI lo w.heap.size w v x:=by
 obtain ⟨F,hm,hl⟩:=h;exact ⟨F,hm,λb hb=>⟨hl b hb,hm.lt b hb⟩⟩
def OwnI.own (h:OwnI lo hi w v x):Own lo w v x:=by
 obtain ⟨F,hm,hl⟩:=h;exact ⟨F,hm,λb hb=>(hl b hb).1⟩
def OwnI.is (h:OwnI lo hi w v x):Is w v x:=by obtain ⟨_,hm,_⟩:=h;exact hm.is
def OwnI.ext (h:OwnI lo hi w v x) (hx:Ext w w'):OwnI lo hi w' v x:=by obtain ⟨F,hm,hl⟩:=h;exact ⟨F,hm.ext hx,hl⟩
def OwnI.chg (h:OwnI lo hi w v x) (hc:ChgI a b w w') (hd:hi<=a\/b<=lo):OwnI lo hi w' v x:=by
 obtain ⟨F,hm,hl⟩:=h;exact ⟨F,hm.keep λc g0=>hc.block c (hm.lt c g0) (by have:=hl c g0;omega),hl⟩
def OwnI.mono {lo' hi':Nat} (h:OwnI lo hi w v x) (h1:lo'<=lo) (h2:hi<=hi'):OwnI lo' hi' w v x:=by
 obtain ⟨F,hm,hl⟩:=h;exact ⟨F,hm,λb hb=>by have:=hl b hb;omega⟩
def VarI {α:Type} [Rep α] (lo hi:Nat) (w:wD) (g:Nat) (x:α):Prop:=∃ F,OAt F w g 0 x/\∀ b∈F,lo<=b/\b<hi
def OAt.keep {F:List Nat} {g o:Nat} (h:OAt F w g o x) (hk:∀ c∈g :: F,w'.heap[c]?=w.heap[c]?):OAt F w' g o x:=by
 obtain ⟨cs,hr,ha,hn,hw,hb,c,e,hc⟩:=h;have hg:=hk g sS;exact ⟨cs,Rep.keep hr λb hb=>hk b (by simp [hb]),zbo ha hg,hn,hw.keep λb hb=>hk b (by simp [hb]),hb,c,e,by rw [hg];exact hc⟩
def VarI.lt {g:Nat} (h:VarI lo hi w g x):g<w.heap.size:=by obtain ⟨_,h,_⟩:=h;exact h.lt
def OAt.lts {F:List Nat} {g o:Nat} (h:OAt F w g o x):∀ c∈g :: F,c<w.heap.size:=by
 intro c hc;rcases qaa.1 hc with rfl | hc
 . exact h.lt
 obtain ⟨_,hr,_⟩:=h;exact Rep.lt hr c hc
def VarI.ext {g:Nat} (h:VarI lo hi w g x) (hx:Ext w w'):VarI lo hi w' g x:=by
 obtain ⟨F,h,hl⟩:=h;exact ⟨F,h.keep λc hc=>hx.heap (h.lts c hc),hl⟩
def VarI.chg {g:Nat} (h:VarI lo hi w g x) (hc:ChgI a b w w') (hd:hi<=a\/b<=lo) (hg:g<a\/b<=g):VarI lo hi w' g x:=by
 obtain ⟨F,h,hl⟩:=h;refine ⟨F,h.keep λc g0=>hc.block c (h.lts c g0) ?_,hl⟩;rcases qaa.1 g0 with rfl | g0
 . omega
 have:=hl c g0;omega
def VarI.at {g:Nat} (h:VarI lo hi w g x):At w g 0 x:=by obtain ⟨_,h,_⟩:=h;exact h.at
def VarI.own {g:Nat} (h:VarI lo hi w g x):∃ v,OwnI lo hi w v x/\∃ cs F,Rep.rep F w cs x/\w.rangeAt g 0 cs/\v=mkv α cs:=by
 obtain ⟨F,⟨cs,hr,ha,hn,hw,_⟩,hl⟩:=h;exact ⟨mkv α cs,⟨F,⟨⟨cs,hr,rfl⟩,hn,hw⟩,hl⟩,cs,F,hr,ha,rfl⟩
section
variable {P:pG} {w0:wD}
def zeC [RepZ α] {e:TypeId} {K:vL->wD->Prop} (hz:zcu P e=some (RepZ.zc α))
   (k:∀ w',Ext w w'->VarI w'.heap.size w'.heap.size w' w.heap.size ((RepZ.zv:α))->K (.pointer (some ⟨w.heap.size,0,none⟩)) w'):OP P (Instr.alloc e true (.tuple #[])) w K:=
 zaL hz λw' hx hB=>k w' hx ⟨[],⟨RepZ.zc α,RepZ.zr w',hB.range,qav,Wr.nil _,sS,_,_,hB⟩,sS⟩
def zfE {t by_ g:Nat} {K:vL->Prop} (ht:tyI P t=some (Rep.size α,by_,Rep.agg α)) (h:VarI lo hi w0 g x) (hx:Ext w0 w) (k:∀ v,OwnI lo hi w0 v x->K v) :
   RD P (Instr.loadAt t (.pointer (some ⟨g,0,none⟩))) w K:=by
 obtain ⟨v,ho,_,_,hr,ha,rfl⟩:=h.own;exact zba (λ_ g0=>zfC ht (zcp hr (hx.t g0)) (zbQ ha (hx.t g0))) (k _ ho)
def zcR {t by_ g:Nat} {K:vL->Prop} (ht:tyI P t=some (Rep.size α,by_,Rep.agg α)) (h:VarI lo hi w0 g x) (hx:Ext w0 w) (k:∀ v,OwnI lo hi w0 v x->K v) :
   RD P (zfA t (.pointer (some ⟨g,0,none⟩))) w K:=by
 obtain ⟨v,ho,_,_,hr,ha,rfl⟩:=h.own;refine zba (λ_ g0=>?_) (k _ ho);have:=zfC ht (zcp hr (hx.t g0)) (zbQ ha (hx.t g0));simpa [zfA,asAddr,Instr.loadAt,Instr.sureAddr] using this
def zA3 {β:Type} [Rep β] {t by_ g o:Nat} {F G:List Nat} {y y':β} {upd:β->α} {u:vL} {lo2 hi2:Nat} {K:wD->Prop} (ht:tyI P t=some (Rep.size β,by_,Rep.agg β)) (hL:Lens (VH g) (g :: F) w g o G y upd) (hF:∀ b∈F,lo<=b/\b<hi)
   (hu:OwnI lo2 hi2 w u y') (h1:hi<=lo2) (h2:g<lo2) (k:∀ w',ChgI g (g+1) w w'->(∀ lo',lo'<=lo->lo'<=lo2->∀ hi',hi<=hi'->hi2<=hi'->VarI lo' hi' w' g (upd y'))->K w'):OPU P (Instr.storeAt t (.pointer (some ⟨g,o,none⟩)) u) w K:=by
 obtain ⟨G',hM,g0⟩:=hu
 have hs:∀ c∈G',c∈G\/c∉g :: F:=λc hc=>.inr λhm=>by
   have:=g0 c hc;rcases qaa.1 hm with rfl | hm
   . omega
   have:=hF c hm;omega
 have g1:g∉G':=λh=>by have:=g0 g h;omega
 refine zuf ht hL.here hM.own hM.nodup hM.wr g1 λw' g2 hO=>k w' (g2.chg.toI sS) ?_;obtain ⟨F',h3,h4⟩:=hL.back w' G' y' (g2.mono (lr _) (lr _) sS) hO hs;intro lo' _ _ hi' _ _;refine ⟨F',h3,λc hc=>?_⟩;rcases h4 c hc with h | h
 . rcases qaa.1 h with rfl | h
   . obtain ⟨_,_,_,_,_,hn,_⟩:=h3;exact absurd hc hn
   have:=hF c h;omega
 have:=g0 c h;omega
def zbH {t by_ g:Nat} {x0:α} {lo0 g4:Nat} {u:vL} {K:wD->Prop} (ht:tyI P t=some (Rep.size α,by_,Rep.agg α)) (hv:VarI lo0 g4 w g x0) (hu:OwnI lo hi w u x) (hg:g<lo\/hi<=g)
   (k:∀ w',ChgI g (g+1) w w'->VarI lo hi w' g x->K w'):OPU P (Instr.storeAt t (.pointer (some ⟨g,0,none⟩)) u) w K:=by
 obtain ⟨_,hO,_⟩:=hv;obtain ⟨G',hM,g1⟩:=hu;have g0:g∉G':=λh=>by have:=g1 g h;omega
 exact zuf ht hO hM.own hM.nodup hM.wr g0 λw' g2 g3=>k w' (g2.chg.toI sS) ⟨G',g3,g1⟩
end
def zbI {x:Int} (h:I64 x):OwnI lo hi w (.int .i64 x) x:=⟨[],⟨⟨_,⟨rfl,rfl,h⟩,rfl⟩,qav,Wr.nil w⟩,sS⟩
def zlm {x:ByteArray} (h:x.size<=maxLen):OwnI lo hi w (.string x) x:=⟨[],⟨⟨_,⟨rfl,rfl,h⟩,rfl⟩,qav,Wr.nil w⟩,sS⟩
end
end Go.Sh
namespace Go.Sh
open Rep (rep)
variable {F F0 G:List Nat} {b o:Nat} {c0 cs:List vL} {w:wD}
section
variable {w:wD} {b o:Nat}
def zaR {α β:Type} [Rep α] [Rep β] {F G:List Nat} {c1 c2:List vL} {x:α} {y:β} (h1:rep F w c1 x) (h2:rep G w c2 y):rep (F++G) w (c1++c2) (x,y):=⟨F,G,c1,c2,rfl,rfl,h1,h2⟩
def zbC {α:Type} [Rep α] (ha:Rep.agg α=false) {F:List Nat} {v:vL} {x:α} (h:OwnF F w v x):rep F w [v] x:=by
 obtain ⟨_,hr,rfl⟩:=h;have hl:=Rep.len hr;rw [Rep.sz ha] at hl;obtain ⟨_,rfl⟩:=qbr.1 hl;simpa [mkv,ha] using hr
end
structure DRace where
 g:Int
 a:Int
 b:Int
def DRace.ext_iff {x y:DRace}:x=y↔(x.g=y.g/\x.a=y.a/\x.b=y.b):=⟨λh=>by rw [h];exact ⟨rfl,rfl,rfl⟩,λh=>by obtain ⟨h0,h1,h2⟩:=h;cases x;cases y;simp only at h0 h1 h2;simp only [h0,h1,h2]⟩
instance:DecidableEq DRace:=λx y=>decidable_of_iff (x.g=y.g/\x.a=y.a/\x.b=y.b) DRace.ext_iff.symm
instance:Rep DRace:=Rep.via λx=>(x.g,x.a,x.b)
def zhT {x:DRace} (h:At w b o x):At w b (o+0) x.g:=zcn (α:=Int) (β:=Int×Int) (p:=(x.g,x.a,x.b)) h
def zhU {x:DRace} (h:At w b o x):At w b (o+1) x.a:=zcn (α:=Int) (β:=Int) (p:=(x.a,x.b)) (za7 (α:=Int) (β:=Int×Int) (p:=(x.g,x.a,x.b)) h)
def zn2 {x:DRace} (h:At w b o x):At w b (o+2) x.b:=za7 (α:=Int) (β:=Int) (p:=(x.a,x.b)) (za7 (α:=Int) (β:=Int×Int) (p:=(x.g,x.a,x.b)) h)
instance:RepZ DRace:=⟨⟨(RepZ.zv:Int),(RepZ.zv:Int),(RepZ.zv:Int)⟩,RepZ.zc (Int×Int×Int),λw=>RepZ.zr (α:=Int×Int×Int) w⟩
def zqM {γ:Type} {H:List Nat->wD->γ->Prop} {x:DRace} {upd:DRace->γ} (h:Lens H F w b o G x upd) :
   ∃ G1,Lens H F w b (o+1) G1 x.a (λy=>upd ⟨x.g,y,x.b⟩):=by
 have h':Lens H F w b o G (x.g,x.a,x.b) (λp:Int×Int×Int=>upd ⟨p.1,p.2.1,p.2.2⟩):=⟨h.here,h.sub,λw' G' _ hc hO hs=>h.back w' G' _ hc hO hs⟩;obtain ⟨_,h'⟩:=h'.snd;obtain ⟨G1,h'⟩:=h'.fst;exact ⟨_,h'⟩
def zqN {γ:Type} {H:List Nat->wD->γ->Prop} {x:DRace} {upd:DRace->γ} (h:Lens H F w b o G x upd) :
   ∃ G1,Lens H F w b (o+2) G1 x.b (λy=>upd ⟨x.g,x.a,y⟩):=by
 have h':Lens H F w b o G (x.g,x.a,x.b) (λp:Int×Int×Int=>upd ⟨p.1,p.2.1,p.2.2⟩):=⟨h.here,h.sub,λw' G' _ hc hO hs=>h.back w' G' _ hc hO hs⟩;obtain ⟨_,h'⟩:=h'.snd;obtain ⟨G1,h'⟩:=h'.snd;exact ⟨_,h'⟩
instance:Flat DRace:=⟨λh=>Flat.flat (α:=Int×Int×Int) h⟩
structure DState where
 vars:List Int
 owner:List Int
 stacks:List (List Int)
def DState.ext_iff {x y:DState}:x=y↔(x.vars=y.vars/\x.owner=y.owner/\x.stacks=y.stacks):=⟨λh=>by rw [h];exact ⟨rfl,rfl,rfl⟩,λh=>by obtain ⟨h0,h1,h2⟩:=h;cases x;cases y;simp only at h0 h1 h2;simp only [h0,h1,h2]⟩
instance:DecidableEq DState:=λx y=>decidable_of_iff (x.vars=y.vars/\x.owner=y.owner/\x.stacks=y.stacks) DState.ext_iff.symm
instance:Rep DState:=Rep.via λx=>(x.vars,x.owner,x.stacks)
def zcK {x:DState} (h:At w b o x):At w b (o+0) x.vars:=zcn (α:=List Int) (β:=(List Int)×(List (List Int))) (p:=(x.vars,x.owner,x.stacks)) h
def zcy {x:DState} (h:At w b o x):At w b (o+1) x.owner:=zcn (α:=List Int) (β:=(List (List Int))) (p:=(x.owner,x.stacks)) (za7 (α:=List Int) (β:=(List Int)×(List (List Int))) (p:=(x.vars,x.owner,x.stacks)) h)
def zaB {x:DState} (h:At w b o x):At w b (o+2) x.stacks:=za7 (α:=List Int) (β:=(List (List Int))) (p:=(x.owner,x.stacks)) (za7 (α:=List Int) (β:=(List Int)×(List (List Int))) (p:=(x.vars,x.owner,x.stacks)) h)
def zvX {x:DState} (h0:rep F0 w c0 x.vars) {F1:List Nat} {c1:List vL} (h1:rep F1 w c1 x.owner) {F2:List Nat} {c2:List vL} (h2:rep F2 w c2 x.stacks):rep (F0++(F1++F2)) w (c0++(c1++c2)) x:=zaR h0 (zaR h1 (h2))
instance:RepZ DState:=⟨⟨(RepZ.zv:List Int),(RepZ.zv:List Int),(RepZ.zv:List (List Int))⟩,RepZ.zc ((List Int)×(List Int)×(List (List Int))),λw=>RepZ.zr (α:=(List Int)×(List Int)×(List (List Int))) w⟩
def zfo {γ:Type} {H:List Nat->wD->γ->Prop} {x:DState} {upd:DState->γ} (h:Lens H F w b o G x upd) :
   ∃ G1,Lens H F w b (o+2) G1 x.stacks (λy=>upd ⟨x.vars,x.owner,y⟩):=by
 have h':Lens H F w b o G (x.vars,x.owner,x.stacks) (λp:(List Int)×(List Int)×(List (List Int))=>upd ⟨p.1,p.2.1,p.2.2⟩):=⟨h.here,h.sub,λw' G' _ hc hO hs=>h.back w' G' _ hc hO hs⟩;obtain ⟨_,h'⟩:=h'.snd;obtain ⟨G1,h'⟩:=h'.snd;exact ⟨_,h'⟩
def zvY {x:DState} (h:rep F w cs x):∃ F0 c0 F1 c1 F2 c2,F=(F0++(F1++F2))/\cs=(c0++(c1++c2))/\rep F0 w c0 x.vars/\rep F1 w c1 x.owner/\rep F2 w c2 x.stacks:=by
 obtain ⟨F0,_,c0,_,rfl,rfl,h0,h⟩:=h;obtain ⟨F1,_,c1,_,rfl,rfl,h1,h⟩:=h;exact ⟨_,_,_,_,_,_,rfl,rfl,h0,h1,h⟩
section
variable {w:wD} {b o:Nat}
def zpf {v:vL} {x:DRace}:Is w v x↔v=.agg #[.int .i64 x.g,.int .i64 x.a,.int .i64 x.b]/\I64 x.g/\I64 x.a/\I64 x.b:=by
 constructor
 . rintro ⟨_,_,⟨_,_,_,_,rfl,rfl,⟨rfl,rfl,h1⟩,⟨_,_,_,_,rfl,rfl,⟨rfl,rfl,h2⟩,⟨rfl,rfl,h3⟩⟩⟩,rfl⟩;exact ⟨rfl,h1,h2,h3⟩
 rintro ⟨rfl,h1,h2,h3⟩;exact ⟨[],[.int .i64 x.g,.int .i64 x.a,.int .i64 x.b],⟨[],[],[.int .i64 x.g],[.int .i64 x.a,.int .i64 x.b],rfl,rfl,⟨rfl,rfl,h1⟩,[],[],[.int .i64 x.a],[.int .i64 x.b],rfl,rfl,⟨rfl,rfl,h2⟩,⟨rfl,rfl,h3⟩⟩,rfl⟩
def zqO {x:DRace} (h1:I64 x.g) (h2:I64 x.a) (h3:I64 x.b):Mine [] w (.agg #[.int .i64 x.g,.int .i64 x.a,.int .i64 x.b]) x:=
 ⟨⟨[.int .i64 x.g,.int .i64 x.a,.int .i64 x.b],⟨[],[],[.int .i64 x.g],[.int .i64 x.a,.int .i64 x.b],rfl,rfl,⟨rfl,rfl,h1⟩,[],[],[.int .i64 x.a],[.int .i64 x.b],rfl,rfl,⟨rfl,rfl,h2⟩,⟨rfl,rfl,h3⟩⟩,rfl⟩,qav,Wr.nil w⟩
def zvZ {F G H:List Nat} {a b c:vL} {s:DState} (h1:Mine F w a s.vars) (h2:Mine G w b s.owner) (h3:Mine H w c s.stacks) (hn:(F++(G++H)).Nodup):Mine (F++(G++H)) w (.agg #[a,b,c]) s:=
 ⟨⟨[a,b,c],zaR (zbC rfl h1.own) (zaR (zbC rfl h2.own) (zbC rfl h3.own)),rfl⟩,hn,h1.wr.append (h2.wr.append h3.wr)⟩
end
end Go.Sh
namespace Go.Sh
open Rep (rep)
def zqP (P:pG) (t:TypeId) (α:Type) [Rep α] (n:Nat):Prop:=
 ∀ (H:Type) (enc:TypeId×vL->H) (w:wD) (spare:Nat->Bool) (held:Bool) (cs:List vL) (y:DataW H×List MemPlace),DataW.trod enc P w 0 spare held n t cs=some y->∃ F x,rep F w cs (x:α)
section
variable {P:pG} {t:TypeId}
theorem zqQ {α β:Type} {f:α->Option β}:∀ {l:List α} {r:List β},l.mapM f=some r->l.length=r.length/\∀ (i:Nat) x,l[i]?=some x->∃ y,f x=some y/\r[i]?=some y
 | [],r,h=>by simp at h;subst h;simp
 | a :: l,r,h=>by
   simp only [qcN,Option.pure_def,Option.bind_eq_bind,qcZ,qao] at h;obtain ⟨b,hb,bs,hbs,rfl⟩:=h;obtain ⟨h1,h2⟩:=zqQ hbs;refine ⟨by simp [h1],λi x hx=>?_⟩;cases i with
   | zero=>simp at hx;subst hx;exact ⟨b,hb,sS⟩
   | succ i=>obtain ⟨y,hy,hr⟩:=h2 i x (by simpa using hx);exact ⟨y,hy,by simpa using hr⟩
def zsY {w:wD} {a:Addr} {n:Nat} {cs:List vL} (h:w.cells? 0 a n=some cs):cs.length=n/\∀ j v,cs[j]?=some v->w.cell? (a.add j)=some v:=by
 unfold World.cells? at h;simp only [qbP,if_true] at h;obtain ⟨h1,h2⟩:=zqQ h;simp only [qbe] at h1;refine ⟨h1.symm,λj v hv=>?_⟩;have:j<cs.length:=(List.getElem?_eq_some_iff.1 hv).1;obtain ⟨_,hy,hr⟩:=h2 j j (by rw [List.getElem?_range oo]);rw [hr] at hv;cases hv;exact hy
def zxJ {w:wD} {a:Addr} {v:vL} (h:w.cell? a=some v):a.spot=none:=by
 unfold World.cell? at h;split at h
 . split at h
   . cases h
   rename_i hs;simpa using hs
 cases h
theorem zqR {α:Type} [Rep α] {w:wD} {b o:Nat}:∀ (n:Nat),(∀ i,i<n->∃ (cs:List vL) (F:List Nat) (x:α),w.rangeAt b (o+i*Rep.size α) cs/\rep F w cs x) ->
   ∃ (F:List Nat) (xs:List vL) (l:List α),l.length=n/\Cells F w xs l/\w.rangeAt b o xs
 | 0,_=>⟨[],[],[],rfl,⟨rfl,rfl⟩,λj v hv=>by simp at hv⟩
 | n+1,h=>by
   obtain ⟨F,xs,l,hl,hc,hr⟩:=zqR n λi hi=>h i oo;obtain ⟨cs,G,x,hra,hx⟩:=h n oo;refine ⟨F++G,xs++cs,l++[x],by simp [hl],Cells.append hc (Cells.single hx),?_⟩;intro j v hv;have hlen:=Cells.len hc;rw [hl] at hlen;rcases qay j xs.length with hj | hj
   . rw [List.getElem?_append_left hj] at hv;exact hr j v hv
   rw [List.getElem?_append_right hj] at hv;have:=hra (j-xs.length) v hv;rwa [show o+n*Rep.size α+(j-xs.length)=o+j by omega] at this
def zsZ {e:TypeId} {α:Type} [Rep α] {n:Nat} (ht:P.underlying t=some (.slice e)) (hc:P.cellsOf e=Rep.size α) (he:zqP P e α n):zqP P t (List α) (n+1):=by
 intro H enc w g0 held cs _ h;rcases DataW.trod_slice ht h with ⟨rfl,_⟩ | ⟨a,len,cap,_,_,m,_,rfl,_,_,h1,h2,_,h4,_⟩
 . exact ⟨[],[],none,0,[],[],rfl,lr _,z0 _,⟨rfl,rfl⟩,.inl ⟨rfl,rfl⟩⟩
 obtain rfl:m=n:=oo;by_cases h0:len=0
 . subst h0;exact ⟨[],[],some a,cap,[],[],rfl,z0 _,h2,⟨rfl,rfl⟩,.inl ⟨rfl,rfl⟩⟩
 have g1:∀ i,i<len->∃ (cs:List vL) (F:List Nat) (x:α),cs.length=Rep.size α/\(∀ j v,cs[j]?=some v->w.cell? ((a.add (i*P.cellsOf e)).add j)=some v)/\rep F w cs x:=by
   intro i hi;have hy:=h4 i hi;rw [List.getElem?_eq_getElem oo] at hy;obtain ⟨cs,g3,hy⟩:=qcZ.1 hy;obtain ⟨F,x,hx⟩:=he H enc w g0 held cs _ hy;obtain ⟨hl,r⟩:=zsY g3;exact ⟨cs,F,x,by rw [hl,hc],r,hx⟩
 have g2:a.spot=none:=by
   obtain ⟨cs,F,x,hl,r,_⟩:=g1 0 oo;have hp:=Rep.pos (α:=α);have:=r 0 (cs[0]'(by omega)) (by rw [List.getElem?_eq_getElem]);simpa [Addr.add] using zxJ this
 obtain ⟨b,o,_⟩:=a;simp only at g2;subst g2
 obtain ⟨F,xs,l,hl,hC,hR⟩:=zqR (α:=α) (w:=w) (b:=b) (o:=o) len λi hi=>by
   obtain ⟨cs,F,x,_,r,hx⟩:=g1 i hi;refine ⟨cs,F,x,λj v hv=>?_,hx⟩;have:=r j v hv;rw [hc] at this;rwa [Addr.add_mid,Addr.add_mid] at this
 have hb:b<w.heap.size:=zkd hR (by rw [Cells.len hC,hl];exact Nat.mul_pos oo Rep.pos);subst hl;exact ⟨b :: F,l,some ⟨b,o,none⟩,cap,F,xs,rfl,h1,h2,hC,.inr ⟨b,o,rfl,rfl,hR,hb⟩⟩
def zv0 {α:Type} [Rep α]:zqP P t α 0:=by intro _ _ _ _ _ _ _ h;simp [DataW.trod] at h
theorem zlU {e:TypeId} {α:Type} [Rep α] (ht:P.underlying t=some (.slice e)) (hc:P.cellsOf e=Rep.size α) (he:∀ n,zqP P e α n):∀ n,zqP P t (List α) n
 | 0=>zv0
 | n+1=>zsZ ht hc (he n)
def zs0 {e:TypeId} {α:Type} [Rep α] {H:Type} {enc:TypeId×vL->H} {w W:wD} {r:Reach} {b0:Nat} {C:Nat->Bool} {held:Bool} {v:vL} {d:DataW H} {p:List MemPlace} (ht:P.underlying t=some (.slice e)) (hr:∀ n,zqP P t (List α) n) (hv:Value.okWide P W r b0 t v)
   (h:DataW.Trod enc P w 0 C held t v d p):∃ x:List α,Is w v x:=by
 obtain ⟨_,_,_,rfl⟩:=WideShapes.okWide_slice ht hv;obtain ⟨n,hn⟩:=h;obtain ⟨F,x,hx⟩:=hr n H enc w C held _ _ hn;exact ⟨x,F,_,hx,rfl⟩
end
end Go.Sh
