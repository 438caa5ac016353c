/-
  Parts of the proof, put together by program.
-/
import Derived.Calls
import Derived.Orders
import Derived.Below
import Derived.Laws.Sem
import Derived.Deep.MidRow
import Derived.Laws.OwnMore
import Derived.Laws.Slices
import Derived.Laws.Entries
import Derived.Laws.Strings
import Derived.Laws.BitsLemmas
import Derived.Laws.Cover3
import Derived.IntWalk
import Derived.Test.YtkgiigmcbgifdaaGreatDoorProg
import Derived.KernelRfl
import Derived.Laws.StructEq
import GoSem.ClaimChange
import Derived.ChangeArms
import Derived.WideShapes
import Derived.Shelf.LaysM
import Derived.Laws.BytesArg
import Derived.Shelf.Strconv.Itoa3
import Derived.Laws.Strings2
import Derived.Laws.Tables
import Derived.Shelf.SlSortCmp.InsertionK
import Derived.Shelf.Lays
import Derived.Shelf.Strings.Builder1
import Derived.Shelf.SlSortCmp.NoneTotal
import Derived.Ground.SlsfProg
import Derived.Test.YtkgiigmcbgifdaaGreatDoorRows
import Derived.ProofKit
import Derived.JoinedOf
import Derived.Test.YtkgiigmcbgifdaaGreatDoorCards
import Derived.Test.YtkgiigmcbgifdaaGreatDoorTie
import Derived.OpenShut
import Derived.ShutString
import Derived.ChangeOld
import Derived.Deep.DeepHandedRow
import Derived.Lib.LaidTab
import Derived.Stop.LaidErr
import Derived.SevenTiedAt
set_option linter.unusedVariables false
set_option linter.unusedSimpArgs false
set_option linter.unusedSectionVars false
set_option linter.defProp false
open Go renaming Value→vL,World→wD,Program→pG
theorem oo {p:Prop} (h:p:=by omega):p:=h
theorem dD {p:Prop} (h:p:=by decide):p:=h
theorem ss {p:Prop} (h:p:=by simp):p:=h
theorem kK {p:Prop} (h:p:=by kernel_rfl):p:=h
theorem sd {p:Prop} (h:p:=by simp +contextual):p:=h
theorem so {p:Prop} (h:p:=by simp;omega):p:=h
def qaa:=@List.mem_cons
def qab:=@List.length_append
def qac:=@List.getElem_mem
def qad:=@if_neg
def qae:=@List.mem_append
def qaf:=@Decidable.not_not
def qag:=@List.not_mem_nil
def qah:=@if_pos
def qai:=@List.take_of_length_le
def qaj:=@List.eq_nil_of_length_eq_zero
def qak:=@decide_false
def qal:=@Nat.le_trans
def qam:=@List.length_cons
def qan:=@Nat.lt_of_lt_of_le
def qao:=@List.length_take
def qap:=@Bool.and_eq_true
def qaq:=@Option.some.injEq
def qar:=@ByteArray.size_append
def qas:=@List.nodup_nil
def qat:=@congrArg
def qau:=@decide_eq_true_eq
def qav:=@List.nodup_append
def qaw:=@Nat.lt_or_ge
def qax:=@List.drop_eq_getElem_cons
def qay:=@List.mem_singleton
def qaz:=@or_false
def qaA:=@List.append_assoc
def qaB:=@Prod.mk.injEq
def qaC:=@List.length_singleton
def qaD:=@List.length_map
def qaE:=@Nat.le_refl
def qaF:=@Int.toNat_natCast
def qaG:=@Nat.pow_le_pow_right
def qaH:=@List.all_eq_true
def qaI:=@List.length_nil
def qaJ:=@List.append_nil
def qaK:=@Array.length_toList
def qaL:=@List.mem_range
def qaM:=@List.take_length
def qaN:=@Nat.lt_of_le_of_lt
def qaO:=@List.flatMap_append
def qaP:=@List.ext_getElem
def qaQ:=@Bool.or_eq_true
def qaR:=@List.nodup_cons
def qaS:=@Option.map_eq_some_iff
def qaT:=@Bool.not_eq_true'
def qaU:=@Nat.testBit_two_pow
def qaV:=@List.mem_flatMap
def qaW:=@List.pairwise_cons
def qaX:=@Nat.testBit_or
def qaY:=@Nat.pow_lt_pow_right
def qaZ:=@Nat.testBit_and
def qa0:=@Nat.or_lt_two_pow
def qa1:=@List.mem_append_left
def qa2:=@Bool.false_eq_true
def qa3:=@List.mem_map
def qa4:=@Nat.and_le_left
def qa5:=@List.map_congr_left
def qa6:=@Nat.mul_le_mul_right
def qa7:=@Int.ofNat_inj
def qa8:=@List.cons.injEq
def qa9:=@Nat.lt_or_eq_of_le
def qba:=@Nat.zero_add
def qbb:=@decide_true
def qbc:=@List.length_drop
def qbd:=@Classical.byContradiction
def qbe:=@Decidable.byContradiction
def qbf:=@List.length_eq_one_iff
def qbg:=@ByteArray.size_extract
def qbh:=@List.map_append
def qbi:=@Int.toNat_of_nonneg
def qbj:=@Bool.false_and
def qbk:=@List.drop_length
def qbl:=@Nat.eq_of_testBit_eq
def qbm:=@List.filter_append
def qbn:=@Nat.testBit_lt_two_pow
def qbo:=@List.nil_append
def qbp:=@Bool.and_false
def qbq:=@Nat.lt_succ_iff
def qbr:=@Nat.shiftRight_eq_div_pow
def qbs:=@Nat.mod_eq_of_lt
def qbt:=@Nat.zero_le
def qbu:=@Nat.add_mul
def qbv:=@Nat.le_of_ble_eq_true
def qbw:=@List.mem_append_right
def qbx:=@Option.isSome_iff_exists
def qby:=@Classical.not_not
def qbz:=@List.set_append_right
def qbA:=@List.pairwise_map
def qbB:=@List.set_eq_take_append_cons_drop
def qbC:=@List.range_succ
def qbD:=@List.length_set
def qbE:=@List.cons_append
def qbF:=@List.getElem_cons_zero
def qbG:=@List.flatMap_cons
def qbH:=@Nat.min_eq_left
def qbI:=@List.length_filter_le
def qbJ:=@Bool.and_eq_false_iff
def qbK:=@List.pairwise_flatMap
def qbL:=@Nat.add_sub_cancel
def qbM:=@List.getElem_map
def qbN:=@List.length_range
def qbO:=@List.headD_cons
def qbP:=@List.length_pos_iff
def qbQ:=@List.foldl_cons
def qbR:=@List.getElem_cons_succ
def qbS:=@List.pairwise_iff_getElem
def qbT:=@List.Sublist.append_left
def qbU:=@Int.lt_trichotomy
def qbV:=@List.mem_filter
def qbW:=@Nat.add_assoc
def qbX:=@List.map_cons
def qbY:=@Nat.one_mul
def qbZ:=@Bool.true_and
def qb0:=@Int.eq_ofNat_of_zero_le
def qb1:=@List.drop_append_of_le_length
def qb2:=@List.take_zero
def qb3:=@List.sublist_cons_self
def qb4:=@List.length_pos_of_mem
def qb5:=@List.drop_eq_nil_of_le
def qb6:=@List.mem_filterMap
def qb7:=@Nat.one_le_two_pow
def qb8:=@Bool.not_eq_false'
def qb9:=@Nat.eq_of_beq_eq_true
def qca:=@List.take_append_drop
def qcb:=@List.length_replicate
def qcc:=@Array.ext'
def qcd:=@List.mem_cons_of_mem
def qce:=@List.pairwise_append
def qcf:=@List.mem_of_mem_take
def qcg:=@List.length_take_le'
def qch:=@Bool.not_eq_true
def qci:=@Nat.div_eq_of_lt
def qcj:=@List.getElem_set
def qck:=@Nat.add_zero
def qcl:=@List.append_of_mem
def qcm:=@Option.isSome_none
def qcn:=@Nat.eq_zero_or_pos
def qco:=@Option.some.inj
def qcp:=@Nat.add_sub_cancel_left
def qcq:=@List.pairwise_mergeSort
def qcr:=@List.pairwise_lt_range
def qcs:=@List.drop_of_length_le
def qct:=@List.append_eq_nil_iff
def qcu:=@List.getElem_replicate
def qcv:=@Nat.lt_trichotomy
def qcw:=@List.take_sublist
def qcx:=@List.eq_nil_iff_forall_not_mem
def qcy:=@List.map_nil
def qcz:=@List.sizeOf_lt_of_mem
def qcA:=@Option.bind_some
def qcB:=@Nat.zero_testBit
def qcC:=@Option.map_some
def qcD:=@List.getElem_of_mem
def qcE:=@List.mergeSort_perm
def qcF:=@Nat.mod_two_eq_zero_or_one
def qcG:=@Int.fdiv_eq_ediv_of_nonneg
def qcH:=@Nat.and_one_is_mod
def qcI:=@List.mem_replicate
def qcJ:=@List.getElem_range
def qcK:=@Array.mapM_eq_mapM_toList
def qcL:=@Nat.lt_pow_two_of_testBit
def qcM:=@List.ne_nil_of_length_pos
def qcN:=@List.elem_eq_true_of_mem
def qcO:=@List.mem_of_elem_eq_true
def qcP:=@List.size_toArray
def qcQ:=@Option.mem_toList
def qcR:=@List.all_eq_false
def qcS:=@Array.size_setIfInBounds
def qcT:=@List.getElem_drop
def qcU:=@List.set_eq_of_length_le
def qcV:=@List.sum_cons
def qcW:=@Nat.mul_one
def qcX:=@List.nodup_range
def qcY:=@Array.size_eq_zero_iff
def qcZ:=@List.filter_eq_nil_iff
def qc0:=@List.Pairwise.sublist
def qc1:=@Nat.ble_eq_true_of_le
def qc2:=@Nat.pow_succ
def qc3:=@ByteArray.data_append
def qc4:=@Nat.div_le_self
def qc5:=@List.all_append
def qc6:=@List.set_getElem_self
def qc7:=@Int.ofNat_lt
def qc8:=@List.pairwise_and_iff
def qc9:=@List.mapM_cons
def qda:=@Int.le_refl
def qdb:=@Bool.false_or
def qdc:=@Bool.and_self
def qdd:=@List.map_set
namespace Go.Sh
open Go.RowKit (Below)
variable {i:Nat}
abbrev Env:=Nat->vL
abbrev Ext (w w':wD):Prop:=Below w.heap.size w w'
def Ext.refl (w:wD):Ext w w:=Below.refl _ _
def xrf:=@Ext.refl
def z0 (n:Nat):0<=n:=qbt n
def lr (n:Nat):n<=n:=qaE n
def tk {α:Type _} {l:List α} (h:i<l.length):l.take (i+1)=l.take i++[l[i]]:=List.take_succ_eq_append_getElem h
def Ext.trans {a b c:wD} (h:Ext a b) (k:Ext b c):Ext a c:=Below.trans h (Below.mono k h.size)
def Ext.t {a b c:wD} (h:Ext a b) (k:Ext b c):Ext a c:=Ext.trans h k
def ev (s:Env):Operand->vL
 | .tmp t=>s t
 | .const v=>v
 | .global g=>.pointer (some ⟨g,0,none⟩)
 | .func f=>.func (.func f) #[] #[]
def upd (s:Env) (d:Nat) (v:vL):Env:=λt=>bif Nat.beq t d then v else s t
def put (s:Env) (d:Option Nat) (v:vL):Env:=match d with | some d=>upd s d v | none=>s
def nth {α:Type}:List α->Nat->Option α
 | [],_=>none
 | x :: _,0=>some x
 | _ :: l,n+1=>nth l n
def zBy (l:List vL) (t:Nat):vL:=match nth l t with | some v=>v | none=>undef
def zbu (m t:Nat):Bool:=Nat.beq (Nat.land 1 (Nat.shiftRight m t)) 1
def mix (m:Nat) (s u:Env):Env:=λt=>bif zbu m t then u t else s t
def BR (v:vL) (kt kf:Prop):Prop:=match v with | .bool true=>kt | .bool false=>kf | _=>False
def GBR (v:vL) (kt kf ks:Prop):Prop:=match v with | .bool true=>kt | .bool false=>kf | .tuple a=>(bif Nat.beq a.size 0 then ks else False) | _=>False
inductive RD (P:pG) (m:Sem vL) (w:wD) (K:vL->Prop):Prop
 | mk (v:vL) (h:∀ w',Ext w w'->m.run P w'=.ok v w') (k:K v):RD P m w K
structure ExtX (X:Nat->Prop) (w w':wD):Prop where
 os:w'.os=w.os
 tape:w'.tape=w.tape
 output:w'.output=w.output
 size:w.heap.size<=w'.heap.size
 block:∀ b,b<w.heap.size->¬X b->w'.heap[b]?=w.heap[b]?
structure Xt where
 l:List Nat
 X:Option (Nat->Prop)
def Xt.rel (x:Xt) (w w':wD):Prop:=match x.X with | none=>Ext w w' | some X=>ExtX X w w'
inductive RDX (P:pG) (X:Nat->Prop) (m:Sem vL) (w:wD) (K:vL->Prop):Prop
 | mk (v:vL) (h:∀ w',ExtX X w w'->m.run P w'=.ok v w') (k:K v):RDX P X m w K
inductive OP (P:pG) (m:Sem vL) (w:wD) (K:vL->wD->Prop):Prop
 | mk (v:vL) (w':wD) (h:m.run P w=.ok v w') (k:K v w'):OP P m w K
inductive OPU (P:pG) (m:Sem Unit) (w:wD) (K:wD->Prop):Prop
 | mk (w':wD) (h:m.run P w=.ok () w') (k:K w'):OPU P m w K
inductive CALL (P:pG) (f:FuncId) (args:List vL) (w:wD) (K:vL->wD->Prop):Prop
 | mk (h:Calls P f args.toArray w λe w'=>∃ v,e=.returned v/\K v w'):CALL P f args w K
inductive OPN (P:pG) (m:Sem Next) (w:wD) (K:vL->wD->Prop):Prop
 | value (v:vL) (w':wD) (h:m.run P w=.ok (.value v) w') (k:K v w'):OPN P m w K
 | skip (w':wD) (h:m.run P w=.ok .skip w') (k:K undef w'):OPN P m w K
 | enter (f:FuncId) (args:Array vL) (w':wD) (h:m.run P w=.ok (.enter f args) w') (k:Calls P f args w' λe w''=>∃ v,e=.returned v/\K v w''):OPN P m w K
 | row (r:String) (args:Array vL) (w':wD) (h:m.run P w=.ok (.row r args) w') (k:Go.Rows P r args w' K):OPN P m w K
def zvo:vL->Bool
 | .pointer (some _)=>true
 | .iface _ _=>true
 | .func (.func _) _ _=>true
 | _=>false
inductive NIL (v:vL) (k:Prop):Prop
 | mk (h:zvo v=true) (hk:k):NIL v k
inductive LOOPI (L:List Nat) (init:List vL) (w:wD) (body:Env->wD->(List vL->wD->Prop)->Prop):Prop
 | mk (I:Nat->List vL->wD->Prop) (m:Nat) (h0:I m init w)
     (hr:∀ m u w',I m (L.map u) w'->body u w' (λus w''=>∃ m',m'<m/\I m' us w'')):LOOPI L init w body
inductive JOIN (L:List Nat) (body:(List vL->wD->Prop)->Prop) (rest:Env->wD->Prop):Prop
 | mk (J:List vL->wD->Prop) (hb:body J) (hr:∀ u w',J (L.map u) w'->rest u w'):JOIN L body rest
def isC:Operand->Operand
 | .const _=>.const undef
 | _=>.tmp 0
def bin (op:BinOp) (t:TypeId) (x y:Operand) (a b:vL):Sem vL:=do eqGuard op t x y a b;binOp op t a b
def zpv (f:vL) (args:List vL):Sem Next:=do let d <-Deferred.ofValue f args.toArray;invoke d.target d.args
def zC4 (r:vL) (m:String) (args:List vL):Sem Next:=invoke (.fn (.method m) #[]) (#[r]++args.toArray)
def prs (s:Operand->vL):List (Nat×Operand)->List (Nat×vL)
 | []=>[]
 | (i,x) :: r=>(i,s x) :: prs s r
structure Cfg where
 ext:List Nat
 joins:List (Nat×Nat×List Nat)
 loops:List (Nat×Nat×List Nat)
 draws:List (Nat×List Nat×Nat)
 pars:List (Nat×Nat×Nat):=[]
 xs:List Nat:=[]
 gpars:List (Nat×Nat):=[]
def find {α:Type}:List (Nat×α)->Nat->Option α
 | [],_=>none
 | (k,a) :: r,n=>bif Nat.beq k n then some a else find r n
def zdR (o:Oper) (ρ:Operand->vL):Option (Sem vL):=
 match o.op with
 | .build t ps=>some (Instr.build t (prs ρ ps.toList).toArray)
 | .load t a=>some (Instr.loadAt t (ρ a))
 | .binOp op t x y _=>some (bin op t (isC x) (isC y) (ρ x) (ρ y))
 | .unOp op _ x=>some (Op.unary op (ρ x))
 | .convert a b x=>some (convert a b (ρ x))
 | .makeInterface t x=>some (Instr.makeInterface t (ρ x))
 | .makeFunc fn first captured=>some (Instr.makeFunc fn (first.toList.map ρ).toArray (captured.toList.map ρ).toArray)
 | .slice t x lo hi mx=>some (Instr.sliceAt t (ρ x) (lo.map ρ) (hi.map ρ) (mx.map ρ))
 | .fieldAddr t x f=>some (Instr.fieldAt t (ρ x) f)
 | .field t x f=>some (Instr.field t (ρ x) f)
 | .indexAddr t x i=>some (Instr.indexAt t (ρ x) (ρ i))
 | .index t x i=>some (Instr.index t (ρ x) (ρ i))
 | .lookup t m k ok=>some (Instr.lookup t (ρ m) (ρ k) ok)
 | .extract t i=>some (Instr.extract (ρ t) i)
 | .typeAssert x t u ok=>some (Instr.typeAssert (ρ x) t u ok)
 | .call { callee:=.builtin .len,args,argTypes }=>some (Builtin.len_ argTypes o.type (args.toList.map ρ).toArray)
 | .call { callee:=.builtin .cap,args,argTypes }=>some (Builtin.cap_ argTypes o.type (args.toList.map ρ).toArray)
 | .call { callee:=.builtin .min,args,argTypes }=>some (Builtin.min_ argTypes o.type (args.toList.map ρ).toArray)
 | .call { callee:=.builtin .max,args,argTypes }=>some (Builtin.max_ argTypes o.type (args.toList.map ρ).toArray)
 | _=>none
def opK (P:pG) (ext:Xt) (o:Oper) (ρ:Operand->vL) (w:wD) (K:vL->wD->Prop):Prop:=
 match o.op with
 | .move x=>K (ρ x) w
 | .assign x=>K (ρ x) w
 | .pick c a b=>BR (ρ c) (K (ρ a) w) (K (ρ b) w)
 | .nilCheck x=>NIL (ρ x) (K (ρ x) w)
 | .alloc e=>OP P (Instr.alloc e true (.tuple #[])) w K
 | .box e x=>OP P (Instr.box e (ρ x)) w K
 | .buildSlice t n ps=>OP P (Instr.buildSlice t n (prs ρ ps.toList).toArray) w K
 | .store t a x=>OPU P (Instr.storeAt t (ρ a) (ρ x)) w (K undef)
 | .makeMap t r=>OP P (Instr.makeMap t (r.map ρ)) w K
 | .makeSlice t l c=>OP P (Instr.makeSlice t (ρ l) (ρ c)) w K
 | .mapUpdate t m k x=>OPU P (Instr.mapUpdate t (ρ m) (ρ k) (ρ x)) w (K undef)
 | .insert t m k x=>OPU P (Instr.mapUpdate t (ρ m) (ρ k) (ρ x)) w (K undef)
 | .mapEntry t m k=>OP P (Instr.mapEntry t (ρ m) (ρ k)) w K
 | .entryStore t m k x=>OPU P (Instr.entryStore t (ρ m) (ρ k) (ρ x)) w (K undef)
 | .range t x=>OP P (Instr.range t (ρ x)) w K
 | .next it b=>OP P (Instr.next (ρ it) b o.type) w K
 | .entry it=>OP P (Instr.entry (ρ it)) w K
 | .call { callee:=.value (.func f),args,.. }=>bif ext.l.elem f then OPN P (callFunc f (args.toList.map ρ).toArray) w K else CALL P f (args.toList.map ρ) w K
 | .call { callee:=.value x,args,.. }=>OPN P (zpv (ρ x) (args.toList.map ρ)) w K
 | .call { callee:=.invoke r m,args,.. }=>OPN P (zC4 (ρ r) m (args.toList.map ρ)) w K
 | .call { callee:=.builtin .append,args,argTypes }=>OP P (Builtin.append_ argTypes o.type (args.toList.map ρ).toArray) w K
 | .call { callee:=.builtin .copy,args,argTypes }=>OP P (Builtin.copy_ argTypes o.type (args.toList.map ρ).toArray) w K
 | .call { callee:=.builtin .delete,args,argTypes }=>OP P (Builtin.delete_ argTypes o.type (args.toList.map ρ).toArray) w K
 | .call { callee:=.builtin .clear,args,argTypes }=>OP P (Builtin.clear_ argTypes o.type (args.toList.map ρ).toArray) w K
 | _=>match zdR o ρ with
   | some m=>(match ext.X with | none=>RD P m w (λv=>K v w) | some X=>RDX P X m w (λv=>K v w))
   | none=>False
def opF (P:pG) (ext:Xt) (o:Oper) (flag:Bool) (s:Env) (w:wD) (K:Env->wD->Prop):Prop:=
 opK P ext o (ev s) w (λv w'=>bif flag then (match ext.X with | none=>Ext w w' | some X=>ExtX X w w')/\K (put s o.dst v) w' else K (put s o.dst v) w')
def zfZ (P:pG) (ext:Xt) (ol:List Oper) (fl:Nat) (i:Nat) (s:Env) (w:wD) (K:Env->wD->Prop):Prop:=
 match nth ol i with
 | none=>False
 | some o=>
   match o.guard with
   | none=>opF P ext o (zbu fl i) s w K
   | some (j,want)=>
     match (nth ol j).bind (·.dst) with
     | none=>False
     | some d=>match (nth ol j).bind (·.guard) with
       | none=>BR (s d)
         (bif want then opF P ext o (zbu fl i) (upd s d (.bool true)) w K else K (put (upd s d (.bool true)) o.dst undef) w)
         (bif want then K (put (upd s d (.bool false)) o.dst undef) w else opF P ext o (zbu fl i) (upd s d (.bool false)) w K)
       | some _=>GBR (s d)
         (bif want then opF P ext o (zbu fl i) (upd s d (.bool true)) w K else K (put (upd s d (.bool true)) o.dst undef) w)
         (bif want then K (put (upd s d (.bool false)) o.dst undef) w else opF P ext o (zbu fl i) (upd s d (.bool false)) w K)
         (K (put (upd s d undef) o.dst undef) w)
def zeU (P:pG) (ext:Xt) (ol:List Oper) (fl:Nat) (K:Env->wD->Prop):List Nat->Env->wD->Prop
 | [],s,w=>K s w
 | i :: r,s,w=>zfZ P ext ol fl i s w (zeU P ext ol fl K r)
def zn3 (l:List Nat) (lo hi:Nat) (T:Nat->Nat×Nat):Prop:=(∀ i∈l,lo<=(T i).1/\(T i).1<=(T i).2/\(T i).2<=hi)/\∀ i∈l,∀ j∈l,i≠j->(T i).2<=(T j).1\/(T j).2<=(T i).1
def zmQ (T:Nat->Nat×Nat) (d:Nat) (x:Nat×Nat):Nat->Nat×Nat:=λt=>bif Nat.beq t d then x else T t
def zrl {α:Type} (l:List (List α)) (i:Nat):List α:=match nth l i with | some x=>x | none=>[]
abbrev ParQ:=Nat->Env->(Nat->Nat×Nat)->wD->Prop
inductive PAR (w:wD) (deps:List (List (Nat×Nat))) (steps fin:ParQ->Prop):Prop
 | mk (Q:ParQ) (st:∀ i u u' T T' w1 w2,Ext w w1->Ext w1 w2->(∀ p∈zrl deps i,u' p.2=u p.2/\T' p.1=T p.1)->Q i u T w1->Q i u' T' w2) (h1:steps Q) (h2:fin Q):PAR w deps steps fin
def zmT (ol:List Oper) (j:Nat):Nat:=match (nth ol j).bind (·.dst) with | some d=>d | none=>0
def onL:List Edge->List Nat
 | []=>[]
 | e :: r=>bif Region.binds .any e then e.on :: onL r else onL r
def onD (ol:List Oper):List Edge->List (Nat×Nat)
 | []=>[]
 | e :: r=>bif Region.binds .any e then (e.on,zmT ol e.on) :: onD ol r else onD ol r
def zh2 (ol:List Oper):Nat->List Oper->List (List (Nat×Nat))
 | _,[]=>[]
 | i,o :: r=>((i,zmT ol i) :: onD ol o.after.toList) :: zh2 ol (i+1) r
def ziB (Q:ParQ) (u:Env) (T:Nat->Nat×Nat) (w:wD):List Edge->Prop
 | []=>True
 | e :: r=>bif Region.binds .any e then Q e.on u T w/\ziB Q u T w r else ziB Q u T w r
def zgv (P:pG) (ext:Xt) (ol:List Oper) (m:Nat) (s:Env) (w:wD) (Q:ParQ):Nat->List Oper->Prop
 | _,[]=>True
 | i,o :: r=>(∀ (u:Env) (T:Nat->Nat×Nat) (w1:wD),Ext w w1->zn3 (onL o.after.toList) w.heap.size w1.heap.size T->ziB Q u T w1 o.after.toList ->
     opK P ext o (ev (mix m s u)) w1 (λv w2=>Ext w1 w2/\Q i (upd u (zmT ol i) v) (zmQ T i (w1.heap.size,w2.heap.size)) w2))/\zgv P ext ol m s w Q (i+1) r
def zkc (Q:ParQ) (u:Env) (T:Nat->Nat×Nat) (w:wD):Nat->Nat->Prop
 | _,0=>True
 | i,n+1=>Q i u T w/\zkc Q u T w (i+1) n
def zEp (P:pG) (ext:Xt) (ol:List Oper) (m p:Nat) (s:Env) (w:wD) (K:Env->wD->Prop):Prop:=
 PAR w (zh2 ol 0 (ol.take p)) (λQ=>zgv P ext ol m s w Q 0 (ol.take p))
   (λQ=>∀ (u:Env) (T:Nat->Nat×Nat) (w1:wD),Ext w w1->zn3 (List.range p) w.heap.size w1.heap.size T->zkc Q u T w1 0 p->zeU P ext ol 0 K ((List.range ol.length).drop p) (mix m s u) w1)
inductive GPAR (w:wD) (deps:List (List (Nat×Nat))) (steps:(wD->Prop)->(Nat->wD->wD->Prop)->ParQ->Prop) (fin:(wD->Prop)->ParQ->Prop):Prop
 | mk (B:wD->Prop) (R:Nat->wD->wD->Prop) (Q:ParQ) (hb:B w) (bs:∀ j w1 w2,B w1->R j w1 w2->B w2) (sz:∀ j w1 w2,R j w1 w2->w1.heap.size<=w2.heap.size)
     (st:∀ i j u u' T T' w1 w2,i≠j->B w1->R j w1 w2->(∀ p∈zrl deps i,u' p.2=u p.2/\T' p.1=T p.1)->Q i u T w1->Q i u' T' w2) (h1:steps B R Q) (h2:fin B Q):GPAR w deps steps fin
def zpw (ol:List Oper) (j:Nat):List (Nat×Nat):=match (nth ol j).bind (·.dst) with | some d=>[(j,d)] | none=>[]
def zBz (ol:List Oper):List Edge->List (Nat×Nat)
 | []=>[]
 | e :: r=>bif Region.binds .any e then zpw ol e.on++zBz ol r else zBz ol r
def zn4 (ol:List Oper):Nat->List Oper->List (List (Nat×Nat))
 | _,[]=>[]
 | i,o :: r=>(zpw ol i++zBz ol o.after.toList) :: zn4 ol (i+1) r
def zf0 (P:pG) (ext:Xt) (m:Nat) (s:Env) (w:wD) (B:wD->Prop) (R:Nat->wD->wD->Prop) (Q:ParQ):Nat->List Oper->Prop
 | _,[]=>True
 | i,o :: r=>(∀ (u:Env) (T:Nat->Nat×Nat) (w1:wD),B w1->w.heap.size<=w1.heap.size->zn3 (onL o.after.toList) w.heap.size w1.heap.size T->ziB Q u T w1 o.after.toList ->
     opK P ext o (ev (mix m s u)) w1 (λv w2=>R i w1 w2/\Q i (put u o.dst v) (zmQ T i (w1.heap.size,w2.heap.size)) w2))/\zf0 P ext m s w B R Q (i+1) r
def zyD (P:pG) (ext:Xt) (ol:List Oper) (m:Nat) (s:Env) (w:wD) (K:Env->wD->Prop):Prop:=
 GPAR w (zn4 ol 0 ol) (λB R Q=>zf0 P ext m s w B R Q 0 ol)
   (λB Q=>∀ (u:Env) (T:Nat->Nat×Nat) (w1:wD),B w1->w.heap.size<=w1.heap.size->zn3 (List.range ol.length) w.heap.size w1.heap.size T->zkc Q u T w1 0 ol.length->K (mix m s u) w1)
inductive XR (body:(Nat->Prop)->Prop):Prop
 | mk (X:Nat->Prop) (h:body X):XR body
def lit (s:Env) (c:Operand) (b:Bool):Env:=match c with | .tmp t=>upd s t (.bool b) | _=>s
def zaG:Code->Option Nat
 | .region id _ _=>some id
 | .seq a b=>match zaG a with | some i=>some i | none=>zaG b
 | .block _ c=>zaG c
 | .loop c=>zaG c
 | _=>none
def zkx (K:Exit->Env->wD->Prop) (N:Env->wD->Prop):Exit->Env->wD->Prop
 | .normal,s,w=>N s w
 | e,s,w=>K e s w
def zk3 (id:Nat) (K:Exit->Env->wD->Prop):Exit->Env->wD->Prop
 | .exit j,s,w=>bif Nat.beq j id then K .normal s w else K (.exit j) s w
 | e,s,w=>K e s w
def World.drew1 (w:wD):wD:={ w with drawn:=w.drawn+1 }
def vc (P:pG) (g:Cfg):Code->Env->wD->(Exit->Env->wD->Prop)->Prop
 | .skip,s,w,K=>K .normal s w
 | .region _ ops false,s,w,K=>zeU P ⟨g.ext,none⟩ ops.toList 0 (K .normal) (List.range ops.size) s w
 | .region id ops true,s,w,K=>
   match find g.gpars id with
   | some m=>zyD P ⟨g.ext,none⟩ ops.toList m s (World.drew1 w) (K .normal)
   | none=>
   match find g.pars id with
   | some (m,p)=>zEp P ⟨g.ext,none⟩ ops.toList m p s (World.drew1 w) (K .normal)
   | none=>
     match find g.draws id with
     | some (l,fl)=>bif g.xs.elem id then XR (λX=>zeU P ⟨g.ext,some X⟩ ops.toList fl (K .normal) l s (World.drew1 w)) else zeU P ⟨g.ext,none⟩ ops.toList fl (K .normal) l s (World.drew1 w)
     | none=>False
 | .seq a b,s,w,K=>
   match (zaG b).bind (find g.joins) with
   | some (m,L)=>JOIN L (λJ=>vc P g a s w (zkx K λs' w'=>J (L.map s') w')) (λu w'=>vc P g b (mix m s u) w' K)
   | none=>vc P g a s w (zkx K λs' w'=>vc P g b s' w' K)
 | .cond c x y,s,w,K=>BR (ev s c) (vc P g x (lit s c true) w K) (vc P g y (lit s c false) w K)
 | .block id c,s,w,K=>vc P g c s w (zk3 id K)
 | .loop c,s,w,K=>
   match (zaG c).bind (find g.loops) with
   | some (m,L)=>LOOPI L (L.map s) w λu w' next=>vc P g c (mix m s u) w' (zkx K λs' w''=>next (L.map s') w'')
   | none=>False
 | .exit id,s,w,K=>K (.exit id) s w
 | .ret,s,w,K=>K .ret s w
 | _,_,_,_=>False
def zbr (t:TypeId) (v:vL):Sem vL:=do loadVar t (<-asAddr v)
def zrm (P:pG) (s:Env) (w:wD):List ResultVar->(List vL->Prop)->Prop
 | [],k=>k []
 | .tmp t :: r,k=>zrm P s w r λvs=>k (s t :: vs)
 | .cell a t :: r,k=>RD P (zbr t (s a)) w λv=>zrm P s w r λvs=>k (v :: vs)
def one:List vL->vL
 | [v]=>v
 | vs=>.tuple vs.toArray
def zC5 (P:pG) (rs:List ResultVar) (R:vL->wD->Prop):Exit->Env->wD->Prop
 | .normal,s,w=>zrm P s w rs λvs=>R (one vs) w
 | .ret,s,w=>zrm P s w rs λvs=>R (one vs) w
 | _,_,_=>False
def vcF (P:pG) (g:Cfg) (fn:Func) (args:List vL) (w:wD) (R:vL->wD->Prop):Prop:=
 match fn.body with
 | some c=>vc P g c (zBy args) w (zC5 P fn.results.toList R)
 | none=>False
end Go.Sh
namespace Go.Sh
open Go.RowKit (Below)
variable {K:vL->Prop} {P:pG} {d:Nat} {v:vL} {w w':wD}
def zbF (a:Act):Env:=λt=>a.tmps.getD t undef
def zst (a:Act):ev (zbF a)=a.eval:=by funext x;cases x<;>rfl
theorem zh3 {α:Type} (l:List α) (i:Nat):nth l i=l[i]?:=by
 induction l generalizing i with
 | nil=>cases i<;>rfl
 | cons x l ih=>cases i<;>simp [nth,ih]
def zdF {α:Type} (l:Array α) (i:Nat):nth l.toList i=l[i]?:=by rw [zh3];simp
def zhy (s:Env) (d:Nat) (v:vL):upd s d v d=v:=by simp [upd]
def zcG (s:Env) {d t:Nat} (v:vL) (h:t≠d):upd s d v t=s t:=by
 have:Nat.beq t d=false:=by rw [Bool.eq_false_iff];exact λe=>h (qb9 e)
 simp [upd,this]
def zgw {s:Env} (h:s d=v):upd s d v=s:=by
 funext t;by_cases e:t=d
 . subst e;rw [zhy,h]
 rw [zcG _ _ e]
def zyE (s:Env) {d e:Nat} (v u:vL) (h:d≠e):upd (upd s d v) e u=upd (upd s e u) d v:=by
 funext t;by_cases h1:t=d
 . subst h1;rw [zhy,zcG _ _ h,zhy]
 by_cases h2:t=e
 . subst h2;rw [zhy,zcG _ _ h1,zhy]
 rw [zcG _ _ h2,zcG _ _ h1,zcG _ _ h1,zcG _ _ h2]
theorem zyF (s:Env) {x y:Option Nat} (v u:vL) (h:∀ d,x=some d->y≠some d):put (put s x v) y u=put (put s y u) x v:=by
 cases x with
 | none=>rfl
 | some d=>
   cases y with
   | none=>rfl
   | some e=>exact zyE s v u (λhe=>h d rfl (he▸rfl))
theorem zvp {s:Env} {x:Option Nat} {t:Nat} (h:∀ d,x=some d->t≠d):put s x v t=s t:=by
 cases x with
 | none=>rfl
 | some d=>exact zcG _ _ (h d rfl)
theorem zvq {a:Act} {d:Option Nat} (h:∀ t,d=some t->t<a.tmps.size):zbF (a.put d v)=put (zbF a) d v:=by
 cases d with
 | none=>rfl
 | some d=>
   funext t;have hd:=h d rfl;by_cases e:t=d
   . subst e;simp [zbF,Act.put,put,zhy,hd]
   simp only [put];rw [zcG _ _ e];simp [zbF,Act.put,Array.getElem?_setIfInBounds_ne (Ne.symm e)]
def zyG (a:Act) (d:Option Nat) (v:vL):(a.put d v).tmps.size=a.tmps.size:=by cases d<;>simp [Act.put]
def zBA (a:Act) (d:Option Nat) (v:vL):(a.put d v).defers=a.defers:=by cases d<;>rfl
def zf1 (m t:Nat):zbu m t=m.testBit t:=by
 unfold zbu Nat.testBit;show Nat.beq (1 &&& (m >>> t)) 1=(1 &&& (m >>> t) != 0);have h:(1 &&& (m >>> t))=(m >>> t)%2:=by rw [Nat.and_comm];exact qcH _
 rw [h];rcases qcF (m >>> t) with h2 | h2<;>rw [h2]<;>rfl
def zpx (v:vL) (kt kf:Prop):BR v kt kf↔∃ b,v=.bool b/\(if b then kt else kf):=by
 constructor
 . intro h;cases v with
   | bool b=>exact ⟨b,rfl,by cases b<;>exact h⟩
   | _=>exact h.elim
 rintro ⟨b,rfl,h⟩;cases b<;>exact h
def zz9 (ρ:Operand->vL) (ps:Array (Nat×Operand)):(prs ρ ps.toList).toArray=ps.map λ(i,x)=>(i,ρ x):=by
 have:∀ l:List (Nat×Operand),prs ρ l=l.map λ(i,x)=>(i,ρ x):=by
   intro l
   induction l with
   | nil=>rfl
   | cons p l ih=>obtain ⟨i,x⟩:=p;simp [prs,ih]
 rw [this];apply qcc;simp
def zeG (ρ:Operand->vL) (xs:Array Operand):(xs.toList.map ρ).toArray=xs.map ρ:=by
 apply qcc;simp
def zrn (op:BinOp) (t:TypeId) (x y:Operand) (a b:vL):eqGuard op t (isC x) (isC y) a b=eqGuard op t x y a b:=by
 cases x<;>cases y<;>rfl
def zBB {m:Sem vL} (h:m.run P w=.ok v w'):(do pure (Next.value (<-m)):Sem Next).run P w=.ok (.value v) w':=by
 simp [h]
def zEz {m:Sem Unit} (h:m.run P w=.ok () w'):(do m;pure Next.skip:Sem Next).run P w=.ok .skip w':=by
 simp [h]
def zt5 {o:Oper} {ρ:Operand->vL} {m:Sem vL} (hm:zdR o ρ=some m) (h:m.run P w=.ok v w') :
   (execOp ρ o).run P w=.ok (.value v) w':=by
 obtain ⟨_,op,_,_,_,_⟩:=o;cases op<;>simp only [zdR] at hm
 case call c=>
   obtain ⟨callee,_,_⟩:=c;cases callee with
   | value f=>simp at hm
   | invoke r m=>simp at hm
   | builtin b=>
     cases b<;>simp only [qaq,reduceCtorEq] at hm<;>subst hm<;>rw [zeG] at h <;>
       simp only [execOp,resolve,invoke,builtin,Sem.run_bind,Sem.run_pure,Result.andThen_ok]<;>simp [h]
 all_goals first
   | (simp at hm;done)
   | (simp only [qaq] at hm;subst hm;exact zBB h)
   | (simp only [qaq] at hm;subst hm;simp only [zz9,zeG,zrn,bin] at h;exact zBB h)
def zeO (P:pG) (f:Nat):Bool:=
 match P.funcs[f]? with
 | some fn=>!(fn.name == "runtime.NumGoroutine")&&fn.body.isSome
 | none=>false
def ExtX.refl (X:Nat->Prop) (w:wD):ExtX X w w:=⟨rfl,rfl,rfl,lr _,λ_ _ _=>rfl⟩
def ExtX.trans {X:Nat->Prop} {a b c:wD} (h:ExtX X a b) (k:ExtX X b c):ExtX X a c:=
 ⟨k.os.trans h.os,k.tape.trans h.tape,k.output.trans h.output,qal h.size k.size,λi hi hX=>(k.block i (qan hi h.size) hX).trans (h.block i hi hX)⟩
def Xt.rel_refl (x:Xt) (w:wD):x.rel w w:=by
 unfold Xt.rel;split
 . exact xrf w
 exact ExtX.refl _ w
def Xt.rel_trans (x:Xt) {a b c:wD} (h:x.rel a b) (k:x.rel b c):x.rel a c:=by
 unfold Xt.rel at *;split at h
 . rename_i hX;simp only [hX] at k ⊢;exact Ext.trans h k
 rename_i X hX;simp only [hX] at k ⊢;exact ExtX.trans h k
theorem RDr_iff {x:Xt} {m:Sem vL}:(match x.X with | none=>RD P m w K | some X=>RDX P X m w K)↔∃ v,(∀ w',x.rel w w'->m.run P w'=.ok v w')/\K v:=by
 unfold Xt.rel;cases x.X with
 | none=>exact ⟨λ⟨v,h,k⟩=>⟨v,h,k⟩,λ⟨v,h,k⟩=>⟨v,h,k⟩⟩
 | some X=>exact ⟨λ⟨v,h,k⟩=>⟨v,h,k⟩,λ⟨v,h,k⟩=>⟨v,h,k⟩⟩
def zsu (ext:List Nat) (N:Nat) (o:Oper):Bool:=
 match o.op with
 | .call { callee:=.value (.func f),.. }=>ext.elem f || Nat.blt f N
 | _=>true
theorem zex {P:pG} {f:Nat} (h:zeO P f=true) (args:Array vL) (w:wD):(callFunc f args).run P w=.ok (.enter f args) w:=by
 unfold zeO at h;cases hf:P.funcs[f]? with
 | none=>simp [hf] at h
 | some fn=>
   simp only [hf,qap,qaT] at h;have hn:¬fn.name = "runtime.NumGoroutine" := by simpa using h.1
   have hb:¬fn.body=none:=by intro hb;simp [hb] at h
   unfold callFunc;simp [program,Sem.run,hf,hn,hb]
section
variable {P:pG} {ext:Xt} {N:Nat} (hE:∀ f,f<N->ext.l.elem f=false->zeO P f=true)
def zm5 {o:Oper} {a:Act} {K:vL->wD->Prop} {Q:Exit->Act->wD->Prop} {f:FuncId} {args:Array vL} {w:wD}
   (h:Calls P f args w λe w'=>∃ v,e=.returned v/\K v w') :
   o.upon P a (λa' w'=>∃ v,a'=a.put o.dst v/\K v w') Q (.ok (.enter f args) w):=by
 rw [Oper.upon_enter];exact h.mono λe w' ⟨v,he,hk⟩=>by subst he;exact ⟨v,rfl,hk⟩
theorem ziC {o:Oper} {a:Act} {K:vL->wD->Prop} {Q:Exit->Act->wD->Prop} {m:Sem Next} {w:wD} (h:OPN P m w K) :
   o.upon P a (λa' w'=>∃ v,a'=a.put o.dst v/\K v w') Q (m.run P w):=by
 cases h with
 | value v w' hr k=>rw [hr];exact ⟨v,rfl,k⟩
 | skip w' hr k=>rw [hr];exact ⟨undef,rfl,k⟩
 | enter f args w' hr k=>rw [hr];exact zm5 k
 | row r args w' hr k=>rw [hr,Oper.upon_row];exact k.mono λv _ hk=>⟨v,rfl,hk⟩
include hE in
def zvr {o:Oper} {a:Act} {w:wD} {K:vL->wD->Prop} {Q:Exit->Act->wD->Prop} (hc:zsu ext.l N o=true)
   (h:opK P ext o a.eval w K):o.wp P a w (λa' w'=>∃ v,a'=a.put o.dst v/\K v w') Q:=by
 unfold Oper.wp;obtain ⟨dst,op,M,pos,C,D⟩:=o
 have rd:∀ {m:Sem vL},zdR ⟨dst,op,M,pos,C,D⟩ a.eval=some m->(match ext.X with | none=>RD P m w (λv=>K v w) | some X=>RDX P X m w (λv=>K v w)) ->
     (Oper.mk dst op M pos C D).upon P a (λa' w'=>∃ v,a'=a.put dst v/\K v w') Q ((execOp a.eval ⟨dst,op,M,pos,C,D⟩).run P w):=by
   intro m hm hr;obtain ⟨v,hv,k⟩:=RDr_iff.1 hr;rw [zt5 hm (hv w (ext.rel_refl w))];exact ⟨v,rfl,k⟩
 have O:∀ {m:Sem vL},OP P m w K->(execOp a.eval ⟨dst,op,M,pos,C,D⟩=(do pure (Next.value (<-m)):Sem Next)) ->
     (Oper.mk dst op M pos C D).upon P a (λa' w'=>∃ v,a'=a.put dst v/\K v w') Q ((execOp a.eval ⟨dst,op,M,pos,C,D⟩).run P w):=by
   intro m ho he;obtain ⟨v,w',hr,k⟩:=ho;rw [he,zBB hr];exact ⟨v,rfl,k⟩
 have g0:∀ {m:Sem Unit},OPU P m w (K undef)->(execOp a.eval ⟨dst,op,M,pos,C,D⟩=(do m;pure Next.skip:Sem Next)) ->
     (Oper.mk dst op M pos C D).upon P a (λa' w'=>∃ v,a'=a.put dst v/\K v w') Q ((execOp a.eval ⟨dst,op,M,pos,C,D⟩).run P w):=by
   intro m ho he;obtain ⟨w',hr,k⟩:=ho;rw [he,zEz hr];exact ⟨undef,rfl,k⟩
 cases op
 case move x=>exact ⟨_,rfl,h⟩
 case assign x=>exact ⟨_,rfl,h⟩
 case pick c x y=>
   simp only [opK,zpx] at h;obtain ⟨b,hb,h⟩:=h;simp only [execOp,hb,asBool];cases b<;>exact ⟨_,rfl,h⟩
 case nilCheck x=>
   simp only [opK] at h;obtain ⟨hn,k⟩:=h;simp only [execOp];cases hx:a.eval x with
   | pointer p=>cases p with
     | none=>simp [hx,zvo] at hn
     | some p=>exact ⟨_,rfl,hx▸k⟩
   | iface t v=>exact ⟨_,rfl,hx▸k⟩
   | func fn first captured=>cases fn with
     | func f=>exact ⟨_,rfl,hx▸k⟩
     | _=>simp [hx,zvo] at hn
   | _=>simp [hx,zvo] at hn
 case alloc e=>exact O h rfl
 case box e x=>exact O h rfl
 case buildSlice t n ps=>exact O h (by simp only [execOp,zz9])
 case store t x y=>exact g0 h rfl
 case makeMap t r=>exact O h rfl
 case makeSlice t l c=>exact O h rfl
 case mapUpdate t m k x=>exact g0 h rfl
 case insert t m k x=>exact g0 h rfl
 case mapEntry t m k=>exact O h rfl
 case entryStore t m k x=>exact g0 h rfl
 case range t x=>exact O h rfl
 case next it b=>exact O h rfl
 case entry it=>exact O h rfl
 case call c=>
   obtain ⟨callee,args,argTypes⟩:=c;cases callee with
   | value f=>
     cases f with
     | func f=>
       simp only [opK] at h
       have he:(execOp a.eval ⟨dst,.call ⟨.value (.func f),args,argTypes⟩,M,pos,C,D⟩).run P w=(callFunc f (args.map a.eval)).run P w:=by
         simp [execOp,resolve,Act.eval,Deferred.ofValue,invoke]
       rw [he];cases hx:ext.l.elem f with
       | true=>simp only [hx,cond_true,zeG] at h;exact ziC h
       | false=>
         simp only [hx,cond_false] at h;obtain ⟨h⟩:=h;simp only [zsu,hx,qdb] at hc;have g1:f<N:=qbv hc;rw [zex (hE f g1 hx)];rw [zeG] at h;exact zm5 h
     | tmp t=>
       simp only [opK] at h;have:=ziC (o:=⟨dst,.call ⟨.value (.tmp t),args,argTypes⟩,M,pos,C,D⟩) (a:=a) (Q:=Q) h;simpa [execOp,resolve,zpv,zeG] using this
     | const v=>
       simp only [opK] at h;have:=ziC (o:=⟨dst,.call ⟨.value (.const v),args,argTypes⟩,M,pos,C,D⟩) (a:=a) (Q:=Q) h;simpa [execOp,resolve,zpv,zeG] using this
     | global g=>
       simp only [opK] at h;have:=ziC (o:=⟨dst,.call ⟨.value (.global g),args,argTypes⟩,M,pos,C,D⟩) (a:=a) (Q:=Q) h;simpa [execOp,resolve,zpv,zeG] using this
   | invoke r m=>
     simp only [opK] at h;have:=ziC (o:=⟨dst,.call ⟨.invoke r m,args,argTypes⟩,M,pos,C,D⟩) (a:=a) (Q:=Q) h;simpa [execOp,resolve,zC4,zeG] using this
   | builtin b=>
     cases b
     case append=>exact O h (by simp only [execOp,resolve,invoke,builtin,zeG,pure_bind])
     case copy=>exact O h (by simp only [execOp,resolve,invoke,builtin,zeG,pure_bind])
     case delete=>exact O h (by simp only [execOp,resolve,invoke,builtin,zeG,pure_bind])
     case clear=>exact O h (by simp only [execOp,resolve,invoke,builtin,zeG,pure_bind])
     case len=>exact rd rfl h
     case cap=>exact rd rfl h
     case min=>exact rd rfl h
     case max=>exact rd rfl h
     all_goals exact (show False from h).elim
 all_goals first | exact (show False from h).elim | exact rd rfl h
end
end Go.Sh
namespace Go.Sh
open Go.RowKit (Below)
variable {A:List Nat} {K K':vL->Prop} {N fl i j m n:Nat} {P:pG} {v:vL} {w w':wD}
theorem zn5 {m:Sem Next} {K K':vL->wD->Prop} (hk:∀ v w',K v w'->K' v w') (h:OPN P m w K):OPN P m w K':=by
 cases h with
 | value v w' hr k=>exact .value v w' hr (hk _ _ k)
 | skip w' hr k=>exact .skip w' hr (hk _ _ k)
 | enter f args w' hr k=>exact .enter f args w' hr (k.mono λ_ w'' ⟨v,he,h⟩=>⟨v,he,hk _ _ h⟩)
 | row r args w' hr k=>exact .row r args w' hr (k.mono λv w'' h=>hk _ _ h)
def OP.mono {m:Sem vL} {K K':vL->wD->Prop} (h:OP P m w K) (hk:∀ v w',K v w'->K' v w'):OP P m w K':=by
 obtain ⟨v,w',hr,k⟩:=h;exact ⟨v,w',hr,hk _ _ k⟩
def OPU.mono {m:Sem Unit} {K K':wD->Prop} (h:OPU P m w K) (hk:∀ w',K w'->K' w'):OPU P m w K':=by
 obtain ⟨w',hr,k⟩:=h;exact ⟨w',hr,hk _ k⟩
def RDr.mono {x:Xt} {m:Sem vL} (h:match x.X with | none=>RD P m w K | some X=>RDX P X m w K) (hk:∀ v,K v->K' v):(match x.X with | none=>RD P m w K' | some X=>RDX P X m w K'):=by
 obtain ⟨v,h1,h2⟩:=RDr_iff.1 h;exact RDr_iff.2 ⟨v,h1,hk v h2⟩
def RD.mono {m:Sem vL} (h:RD P m w K) (hk:∀ v,K v->K' v):RD P m w K':=by
 obtain ⟨v,hr,k⟩:=h;exact ⟨v,hr,hk _ k⟩
def CALL.mono {f:FuncId} {args:List vL} {K K':vL->wD->Prop} (h:CALL P f args w K) (hk:∀ v w',K v w'->K' v w'):CALL P f args w K':=by
 obtain ⟨h⟩:=h;exact ⟨h.mono λ_ w' ⟨v,he,k⟩=>⟨v,he,hk _ _ k⟩⟩
def NIL.mono {k k':Prop} (h:NIL v k) (hk:k->k'):NIL v k':=by
 obtain ⟨a,b⟩:=h;exact ⟨a,hk b⟩
def BR.mono {a b a' b':Prop} (h:BR v a b) (ha:a->a') (hb:b->b'):BR v a' b':=by
 rw [zpx] at *;obtain ⟨t,ht,h⟩:=h;refine ⟨t,ht,?_⟩;cases t<;>simp at h ⊢
 . exact hb h
 exact ha h
def ziD {ext:Xt} {o:Oper} {ρ:Operand->vL} {K K':vL->wD->Prop} (hk:∀ v w',K v w'->K' v w')
   (h:opK P ext o ρ w K):opK P ext o ρ w K':=by
 obtain ⟨_,op,_,_,_,_⟩:=o;cases op
 case call c=>
   obtain ⟨callee,_,_⟩:=c;cases callee with
   | value f=>
     cases f with
     | func f=>
       simp only [opK] at h ⊢;cases hx:ext.l.elem f<;>simp only [hx,cond_true,cond_false] at h ⊢
       . exact CALL.mono h hk
       exact zn5 hk h
     | _=>exact zn5 hk h
   | invoke r m=>exact zn5 hk h
   | builtin b=>
     cases b
     case append=>exact OP.mono h hk
     case copy=>exact OP.mono h hk
     case delete=>exact OP.mono h hk
     case clear=>exact OP.mono h hk
     case len=>exact RDr.mono h λv=>hk v _
     case cap=>exact RDr.mono h λv=>hk v _
     case min=>exact RDr.mono h λv=>hk v _
     case max=>exact RDr.mono h λv=>hk v _
     all_goals exact (show False from h).elim
 case move x=>exact hk _ _ h
 case assign x=>exact hk _ _ h
 case pick c x y=>exact BR.mono h (hk _ _) (hk _ _)
 case nilCheck x=>exact NIL.mono h (hk _ _)
 all_goals first
   | exact (show False from h).elim
   | exact OP.mono h hk
   | exact OPU.mono h λw'=>hk _ w'
   | exact RDr.mono h λv=>hk v _
def zro {o:Oper} {ρ ρ':Operand->vL} (h:∀ x∈o.op.operands,ρ x=ρ' x):zdR o ρ=zdR o ρ':=by
 obtain ⟨_,op,_,_,_,_⟩:=o;have ar:∀ xs:Array Operand,(∀ x∈xs,ρ x=ρ' x)->xs.toList.map ρ=xs.toList.map ρ':=λxs hx=>qa5 λx hm=>hx x (by simpa using hm);cases op<;>simp only [Op.operands] at h<;>simp only [zdR]
 case build t ps=>
   have:prs ρ ps.toList=prs ρ' ps.toList:=by
     have:∀ l:List (Nat×Operand),(∀ p∈l,ρ p.2=ρ' p.2)->prs ρ l=prs ρ' l:=by
       intro l
       induction l with
       | nil=>intro _;rfl
       | cons p l ih=>intro hl;obtain ⟨i,x⟩:=p;simp only [prs];rw [ih λp hp=>hl p (by simp [hp]),show ρ x=ρ' x from hl (i,x) ss]
     exact this _ λp hp=>h p.2 (by simp;exact ⟨p.1,by simpa using hp⟩)
   rw [this]
 case makeFunc fn first captured=>
   rw [ar first λx hx=>h x (by simp [hx]),ar captured λx hx=>h x (by simp [hx])]
 case call c=>
   obtain ⟨callee,args,_⟩:=c;cases callee with
   | value f=>rfl
   | invoke r m=>rfl
   | builtin b=>cases b<;>first | rfl | (simp only;rw [ar args λx hx=>h x (by simp [Call.operands,hx])])
 case slice t x lo hi mx=>cases lo<;>cases hi<;>cases mx<;>simp_all
 all_goals first | rfl | (simp_all;done)
def zpy {ext:Xt} {o:Oper} {ρ ρ':Operand->vL} {K:vL->wD->Prop} (h:∀ x∈o.op.operands,ρ x=ρ' x)
   (hk:opK P ext o ρ w K):opK P ext o ρ' w K:=by
 have hr:=zro h;obtain ⟨_,op,_,_,_,_⟩:=o;have ar:∀ xs:Array Operand,(∀ x∈xs,ρ x=ρ' x)->xs.toList.map ρ=xs.toList.map ρ':=λxs hx=>qa5 λx hm=>hx x (by simpa using hm);have e1:∀ x,ρ x=ρ' x->ρ' x=ρ x:=λ_=>Eq.symm;cases op<;>simp only [Op.operands] at h
 case call c=>
   obtain ⟨callee,args,_⟩:=c;have ha:=ar args λx hx=>h x (by simp [Call.operands,hx]);cases callee with
   | value f=>
     have hf:ρ f=ρ' f:=h f (by simp [Call.operands]);cases f with
     | func f=>simp only [opK,ha] at hk ⊢;exact hk
     | _=>simp only [opK,ha,hf] at hk ⊢;exact hk
   | invoke r m=>
     have hf:ρ r=ρ' r:=h r (by simp [Call.operands]);simp only [opK,ha,hf] at hk ⊢;exact hk
   | builtin b=>
     cases b<;>simp only [opK,ha,zdR] at hk ⊢<;>exact hk
 case buildSlice t n ps=>
   have:prs ρ ps.toList=prs ρ' ps.toList:=by
     have:∀ l:List (Nat×Operand),(∀ p∈l,ρ p.2=ρ' p.2)->prs ρ l=prs ρ' l:=by
       intro l
       induction l with
       | nil=>intro _;rfl
       | cons p l ih=>intro hl;obtain ⟨i,x⟩:=p;simp only [prs];rw [ih λp hp=>hl p (by simp [hp]),show ρ x=ρ' x from hl (i,x) ss]
     exact this _ λp hp=>h p.2 (by simp;exact ⟨p.1,by simpa using hp⟩)
   simp only [opK,this] at hk ⊢;exact hk
 case makeMap t r=>
   cases r with
   | none=>exact hk
   | some r=>simp only [opK,qcC] at hk ⊢;rwa [<-h r ss]
 case move x=>simp only [opK] at hk ⊢;rwa [<-h x ss]
 case assign x=>simp only [opK] at hk ⊢;rwa [<-h x ss]
 case pick c x y=>simp only [opK] at hk ⊢;rwa [<-h x ss,<-h y ss,<-h c ss]
 case nilCheck x=>simp only [opK] at hk ⊢;rwa [<-h x ss]
 case alloc e=>exact hk
 case box e x=>simp only [opK] at hk ⊢;rwa [<-h x ss]
 case store t x y=>simp only [opK] at hk ⊢;rwa [<-h x ss,<-h y ss]
 case makeSlice t x y=>simp only [opK] at hk ⊢;rwa [<-h x ss,<-h y ss]
 case mapUpdate t x y z=>simp only [opK] at hk ⊢;rwa [<-h x ss,<-h y ss,<-h z ss]
 case insert t x y z=>simp only [opK] at hk ⊢;rwa [<-h x ss,<-h y ss,<-h z ss]
 case mapEntry t x y=>simp only [opK] at hk ⊢;rwa [<-h x ss,<-h y ss]
 case entryStore t x y z=>simp only [opK] at hk ⊢;rwa [<-h x ss,<-h y ss,<-h z ss]
 case range t x=>simp only [opK] at hk ⊢;rwa [<-h x ss]
 case next x b=>simp only [opK] at hk ⊢;rwa [<-h x ss]
 case entry x=>simp only [opK] at hk ⊢;rwa [<-h x ss]
 all_goals first
   | exact (show False from hk).elim
   | (simp only [opK] at hk ⊢;rw [<-hr];exact hk)
def zrp (o:Oper):Bool:=
 match o.op with
 | .move _=>true
 | .assign _=>true
 | .pick ..=>true
 | .nilCheck _=>true
 | _=>(zdR o λ_=>undef).isSome
def Rv (P:pG) (x:Xt) (o:Oper) (ρ:Operand->vL) (w:wD) (v:vL):Prop:=
 match o.op with
 | .move x=>v=ρ x
 | .assign x=>v=ρ x
 | .pick c a b=>∃ t,ρ c=.bool t/\v=if t then ρ a else ρ b
 | .nilCheck x=>zvo (ρ x)=true/\v=ρ x
 | _=>∃ m,zdR o ρ=some m/\∀ w',x.rel w w'->m.run P w'=.ok v w'
def ziE {ext:Xt} {o:Oper} {ρ:Operand->vL} {K:vL->wD->Prop} (hr:zrp o=true) :
   opK P ext o ρ w K↔∃ v,Rv P ext o ρ w v/\K v w:=by
 obtain ⟨_,op,_,_,_,_⟩:=o
 have rd:∀ m,(match ext.X with | none=>RD P m w (λv=>K v w) | some X=>RDX P X m w (λv=>K v w))↔∃ v,(∃ m',some m=some m'/\∀ w',ext.rel w w'->m'.run P w'=.ok v w')/\K v w:=λm=>
   RDr_iff.trans ⟨λ⟨v,h,k⟩=>⟨v,⟨m,rfl,h⟩,k⟩,λ⟨v,⟨m',e,h⟩,k⟩=>by cases e;exact ⟨v,h,k⟩⟩
 cases op
 case move x=>simp [opK,Rv]
 case assign x=>simp [opK,Rv]
 case pick c x y=>
   simp only [opK,Rv,zpx];constructor
   . rintro ⟨b,hb,h⟩;exact ⟨_,⟨b,hb,rfl⟩,by cases b<;>exact h⟩
   rintro ⟨v,⟨b,hb,rfl⟩,h⟩;exact ⟨b,hb,by cases b<;>exact h⟩
 case nilCheck x=>
   simp only [opK,Rv];exact ⟨λ⟨a,b⟩=>⟨_,⟨a,rfl⟩,b⟩,λ⟨v,⟨a,e⟩,b⟩=>by subst e;exact ⟨a,b⟩⟩
 case call c=>
   obtain ⟨callee,_,_⟩:=c;cases callee with
   | value f=>simp [zrp,zdR] at hr
   | invoke r m=>simp [zrp,zdR] at hr
   | builtin b=>cases b<;>first | exact rd _ | (simp [zrp,zdR] at hr)
 all_goals first
   | exact rd _
   | (simp [zrp,zdR] at hr)
def zC6 {x:Xt} {o:Oper} {ρ:Operand->vL} (h:Rv P x o ρ w v) (hx:x.rel w w'):Rv P x o ρ w' v:=by
 unfold Rv at *;split at h<;>try exact h
 obtain ⟨m,hm,h⟩:=h;exact ⟨m,hm,λw'' g0=>h w'' (x.rel_trans hx g0)⟩
def zyH {xt:Xt} {o:Oper} {ρ ρ':Operand->vL} (h:∀ x∈o.op.operands,ρ x=ρ' x) (hr:zrp o=true) (hv:Rv P xt o ρ w v):Rv P xt o ρ' w v:=by
 have h1:=(ziE (P:=P) (ext:=xt) (K:=λv' w'=>v'=v/\w'=w) hr).2 ⟨v,hv,rfl,rfl⟩;obtain ⟨v',g0,rfl,_⟩:=(ziE hr).1 (zpy h h1);exact g0
def zeP (o:Oper):Bool:=
 match o.op with
 | .move _=>true
 | .assign _=>true
 | .pick ..=>true
 | .nilCheck _=>true
 | .extract ..=>true
 | _=>false
def zha {o:Oper} (h:zeP o=true):zrp o=true:=by
 obtain ⟨_,op,_,_,_,_⟩:=o;cases op<;>first | rfl | (simp [zeP] at h)
def zBC {x:Xt} {o:Oper} {ρ:Operand->vL} (hp:zeP o=true) (h:Rv P x o ρ w v):Rv P x o ρ w' v:=by
 obtain ⟨_,op,_,_,_,_⟩:=o;cases op<;>first | exact h | (simp [zeP] at hp;done) | skip
 case extract t i=>
   obtain ⟨_,hm,h⟩:=h;simp only [zdR,qaq] at hm;subst hm;refine ⟨_,rfl,λ_ _=>?_⟩;have h1:=h w (x.rel_refl w)
   revert h1
   cases ρ t with
   | tuple vs=>
     simp only [Instr.extract];cases vs[i]? with
     | none=>intro h1;simp at h1
     | some u=>intro h1;simp at h1 ⊢;exact h1
   | _=>intro h1;simp [Instr.extract] at h1
def gOk (ol:List Oper) (o:Oper) (s:Env):Option Bool:=
 match o.guard with
 | none=>some true
 | some (j,want)=>
   match (nth ol j).bind (·.dst) with
   | none=>none
   | some d=>match s d with
     | .bool b=>some (b == want)
     | .tuple a=>bif Nat.beq a.size 0 then (match (nth ol j).bind (·.guard) with | none=>none | some _=>some false) else none
     | _=>none
theorem zBD (v:vL) (kt kf ks:Prop):GBR v kt kf ks↔(∃ b,v=.bool b/\(if b then kt else kf))\/(v=undef/\ks):=by
 cases v with
 | bool b=>cases b<;>simp [GBR,undef]
 | tuple a=>
   simp only [GBR,undef];cases h:Nat.beq a.size 0 with
   | true=>
     have:a=#[]:=qcY.1 (qb9 h);subst this;simp
   | false=>
     have:a≠#[]:=λe=>by subst e;cases h
     simp [this]
 | _=>simp [GBR,undef]
theorem zdS {ext:Xt} {ol:List Oper} {s:Env} {K:Env->wD->Prop} {o:Oper} (ho:nth ol i=some o) :
   zfZ P ext ol fl i s w K↔∃ b,gOk ol o s=some b/\(if b then opF P ext o (zbu fl i) s w K else K (put s o.dst undef) w):=by
 unfold zfZ gOk;simp only [ho];cases hg:o.guard with
 | none=>simp
 | some g=>
   obtain ⟨j,C⟩:=g;simp only;cases hd:(nth ol j).bind (·.dst) with
   | none=>simp
   | some d=>
     simp only;cases hgj:(nth ol j).bind (·.guard) with
     | none=>
       simp only [zpx];constructor
       . rintro ⟨b,hb,h⟩;have hu:=zgw hb;refine ⟨b == C,by simp [hb],?_⟩;cases b<;>cases C<;>simp only [cond_true,cond_false,if_true,qa2,if_false,hu] at h ⊢<;>simpa using h
       rintro ⟨c,hc,h⟩;cases hv:s d with
       | bool b=>
         rw [hv] at hc;simp only [qaq] at hc;subst hc;have hu:=zgw hv;refine ⟨b,rfl,?_⟩;cases b<;>cases C<;>simp only [cond_true,cond_false,if_true,qa2,if_false,hu]<;>simpa using h
       | tuple a=>rw [hv] at hc;simp only at hc;cases h0:Nat.beq a.size 0<;>rw [h0] at hc<;>simp at hc
       | _=>rw [hv] at hc;simp at hc
     | some g'=>
       simp only [zBD];constructor
       . rintro (⟨b,hb,h⟩ | ⟨hb,h⟩)
         . have hu:=zgw hb;refine ⟨b == C,by simp [hb],?_⟩;cases b<;>cases C<;>simp only [cond_true,cond_false,if_true,qa2,if_false,hu] at h ⊢<;>simpa using h
         have hu:=zgw hb;rw [hu] at h;exact ⟨false,by rw [hb];rfl,by simpa using h⟩
       rintro ⟨c,hc,h⟩;cases hv:s d with
       | bool b=>
         rw [hv] at hc;simp only [qaq] at hc;subst hc;have hu:=zgw hv;refine .inl ⟨b,rfl,?_⟩;cases b<;>cases C<;>simp only [cond_true,cond_false,if_true,qa2,if_false,hu]<;>simpa using h
       | tuple a=>
         rw [hv] at hc;simp only at hc;cases h0:Nat.beq a.size 0 with
         | false=>rw [h0] at hc;simp at hc
         | true=>
           rw [h0] at hc;simp only [cond_true,qaq] at hc;subst hc;have ha:a=#[]:=qcY.1 (qb9 h0);subst ha;have hu:upd s d undef=s:=zgw hv;refine .inr ⟨rfl,?_⟩;rw [hu];simpa using h
       | _=>rw [hv] at hc;simp at hc
def zyI {ext:Xt} {o:Oper} {C:Bool} {s:Env} {K K':Env->wD->Prop} (hk:∀ s w,K s w->K' s w)
   (h:opF P ext o C s w K):opF P ext o C s w K':=by
 refine ziD (λ_ _ hh=>?_) h;cases C
 . exact hk _ _ hh
 exact ⟨hh.1,hk _ _ hh.2⟩
theorem zt6 {ext:Xt} {ol:List Oper} {s:Env} {K K':Env->wD->Prop} (hk:∀ s w,K s w->K' s w)
   (h:zfZ P ext ol fl i s w K):zfZ P ext ol fl i s w K':=by
 cases ho:nth ol i with
 | none=>simp [zfZ,ho] at h
 | some o=>
   rw [zdS ho] at h ⊢;obtain ⟨b,hb,h⟩:=h;refine ⟨b,hb,?_⟩;cases b
   . exact hk _ _ h
   exact zyI hk h
theorem zvs {ops:Array Oper} {o:Oper} {s:Env} {x:Option Nat} (h:∀ d,x=some d->d∉o.looksAt ops):gOk ops.toList o (put s x v)=gOk ops.toList o s:=by
 unfold gOk;cases hg:o.guard with
 | none=>rfl
 | some g=>
   obtain ⟨j,_⟩:=g;simp only;cases hd:(nth ops.toList j).bind (·.dst) with
   | none=>rfl
   | some t=>
     have:put s x v t=s t:=zvp λd hx e=>h d hx (by subst e;rw [zdF] at hd;simp [Oper.looksAt,hg,hd]);simp only [this]
theorem zAa {ops:Array Oper} {o:Oper} {s:Env} {x:Option Nat} (h:∀ d,x=some d->d∉o.looksAt ops):∀ y∈o.op.operands,ev (put s x v) y=ev s y:=by
 intro y hy;cases y with
 | tmp t=>
   show put s x v t=s t;exact zvp λd hx e=>h d hx (by subst e;exact qa1 _ (qb6.2 ⟨.tmp t,by simpa using hy,rfl⟩))
 | _=>rfl
theorem swap {ext:Xt} {ops:Array Oper} {fl x y:Nat} {ox oy:Oper} {s:Env} {K:Env->wD->Prop}
   (hx:nth ops.toList x=some ox) (hy:nth ops.toList y=some oy) (hr:zrp ox=true) (g2:zbu fl x=false) (g5:ox.apart ops oy=true) (hf:zrp oy=true\/zbu fl y=true\/zeP ox=true)
   (h:zfZ P ext ops.toList fl x s w λs w=>zfZ P ext ops.toList fl y s w K) :
   zfZ P ext ops.toList fl y s w λs w=>zfZ P ext ops.toList fl x s w K:=by
 obtain ⟨h1,h2,h3⟩:=Oper.apart_spec g5;rw [zdS hx] at h;obtain ⟨bx,g1,h⟩:=h
 have g9:∃ v,(∀ s2 w2,(ext.rel w w2\/zeP ox=true)->(gOk ops.toList ox s2=gOk ops.toList ox s)->(∀ z∈ox.op.operands,ev s2 z=ev s z)->K (put s2 ox.dst v) w2->zfZ P ext ops.toList fl x s2 w2 K) /\
     zfZ P ext ops.toList fl y (put s ox.dst v) w K:=by
   cases bx with
   | false=>
     refine ⟨undef,λs2 w2 _ hg _ hk=>?_,h⟩;rw [zdS hx];exact ⟨false,by rw [hg,g1],hk⟩
   | true=>
     simp only [if_true] at h;obtain ⟨v,hv,hk⟩:=(ziE hr).1 h;rw [g2] at hk;refine ⟨v,λs2 w2 D hg he g3=>?_,hk⟩;rw [zdS hx];refine ⟨true,by rw [hg,g1],?_⟩;rw [g2];simp only [if_true];unfold opF;have g4:=zyH (λz hz=>(he z hz).symm) hr hv;rcases D with D | D
     . exact (ziE hr).2 ⟨v,zC6 g4 D,g3⟩
     exact (ziE hr).2 ⟨v,zBC D g4,g3⟩
 obtain ⟨v,g0,C⟩:=g9;rw [zdS hy] at C ⊢;obtain ⟨b,hb,C⟩:=C;rw [zvs (λd hd=>h1 d hd)] at hb;refine ⟨b,hb,?_⟩
 have fin:∀ u w2,(ext.rel w w2\/zeP ox=true)->K (put (put s ox.dst v) oy.dst u) w2->zfZ P ext ops.toList fl x (put s oy.dst u) w2 K:=by
   intro u w2 D hk;refine g0 _ _ D (zvs λd hd=>h3 d hd) (zAa λd hd=>h3 d hd) ?_;rw [<-zyF s v u h2];exact hk
 cases b with
 | false=>exact fin _ _ (.inl (ext.rel_refl w)) C
 | true=>
   simp only [if_true] at C ⊢;unfold opF at C ⊢;have C:=zpy (ρ':=ev s) (zAa λd hd=>h1 d hd) C;rcases hf with hf | hf | hf
   . obtain ⟨u,hu,hk⟩:=(ziE hf).1 C;refine (ziE hf).2 ⟨u,hu,?_⟩;cases hm:zbu fl y<;>rw [hm] at hk
     . exact fin _ _ (.inl (ext.rel_refl w)) hk
     exact ⟨hk.1,fin _ _ (.inl hk.1) hk.2⟩
   . refine ziD (λu w2 hk=>?_) C;rw [hf] at hk ⊢;exact ⟨hk.1,fin _ _ (.inl hk.1) hk.2⟩
   refine ziD (λu w2 hk=>?_) C;cases hm:zbu fl y<;>rw [hm] at hk
   . exact fin _ _ (.inr hf) hk
   exact ⟨hk.1,fin _ _ (.inr hf) hk.2⟩
theorem zt7 {ext:Xt} {ops:Array Oper} {fl y:Nat} {oy:Oper} {K:Env->wD->Prop} (hy:nth ops.toList y=some oy) (c2:List Nat) :
   ∀ (c1:List Nat) (s:Env) (w:wD),(∀ x∈c1,∃ ox,nth ops.toList x=some ox/\zrp ox=true/\zbu fl x=false/\ox.apart ops oy=true/\(zrp oy=true\/zbu fl y=true\/zeP ox=true)) ->
     zeU P ext ops.toList fl K (c1++y :: c2) s w->zeU P ext ops.toList fl K (y :: (c1++c2)) s w:=by
 intro c1
 induction c1 with
 | nil=>intro s w _ h;exact h
 | cons x c1 ih=>
   intro s w hc h;obtain ⟨ox,hx,hr,g0,g1,hf⟩:=hc x ss;refine swap hx hy hr g0 g1 hf<|zt6 (λs w hk=>ih s w (λz hz=>hc z (by simp [hz])) hk) h
structure Kept (n:Nat) (ds:List Nat) (a a':Act):Prop where
 size:a'.tmps.size=n
 defers:a'.defers=a.defers
 env:∀ t,t∉ds->zbF a' t=zbF a t
def Kept.refl {a:Act} (ds:List Nat) (h:a.tmps.size=n):Kept n ds a a:=⟨h,rfl,λ_ _=>rfl⟩
def Kept.trans {d1 d2 ds:List Nat} {a b c:Act} (h:Kept n d1 a b) (k:Kept n d2 b c) (h1:∀ t,t∈d1->t∈ds) (h2:∀ t,t∈d2->t∈ds):Kept n ds a c:=
 ⟨k.size,k.defers.trans h.defers,λt ht=>(k.env t λe=>ht (h2 t e)).trans (h.env t λe=>ht (h1 t e))⟩
def zk4 (ol:List Oper):List Nat:=ol.filterMap (·.dst)
def zrq (ext:List Nat) (N n:Nat) (ol:List Oper):Bool:=ol.all λo=>zsu ext N o&&(match o.dst with | some d=>Nat.blt d n | none=>true)
def zyJ {ext:Xt} {ol:List Oper} (h:zrq ext.l N n ol=true) {i:Nat} {o:Oper} (ho:nth ol i=some o) :
   zsu ext.l N o=true/\(∀ d,o.dst=some d->d<n)/\(∀ d,o.dst=some d->d∈zk4 ol):=by
 rw [zh3] at ho;have hm:=List.mem_of_getElem? ho;have h1:=qaH.1 h o hm;simp only [qap] at h1;refine ⟨h1.1,λd hd=>?_,λd hd=>qb6.2 ⟨o,hm,hd⟩⟩;have h2:=h1.2;rw [hd] at h2;exact qbv h2
theorem zt8 {ops:Array Oper} {o:Oper} {a:Act} {b:Bool} (h:gOk ops.toList o (zbF a)=some b):Region.wanted o (yielded ops a.tmps)=b:=by
 unfold gOk at h;unfold Region.wanted;cases hg:o.guard with
 | none=>rw [hg] at h;simpa using h
 | some g=>
   obtain ⟨j,g0⟩:=g;rw [hg] at h;simp only at h ⊢;rw [zdF] at h;unfold yielded;cases hd:(ops[j]?).bind (·.dst) with
   | none=>rw [hd] at h;simp at h
   | some d=>
     rw [hd] at h;simp only [qcA] at h ⊢;cases hv:a.tmps[d]? with
     | none=>
       have:zbF a d=undef:=by simp [zbF,hv]
       rw [this] at h;simp only [undef] at h;cases hgj:(ops[j]?).bind (·.guard) with
       | none=>rw [hgj] at h;simp at h
       | some g'=>
         rw [hgj] at h;simp at h;rw [h];rfl
     | some v=>
       have:zbF a d=v:=by simp [zbF,hv]
       rw [this] at h;cases v with
       | bool c=>simp only [qaq] at h;subst h;cases c<;>cases g0<;>rfl
       | tuple a=>
         simp only at h;cases h0:Nat.beq a.size 0 with
         | false=>rw [h0] at h;simp at h
         | true=>
           rw [h0] at h;simp only [cond_true] at h;cases hgj:(ops[j]?).bind (·.guard) with
           | none=>rw [hgj] at h;simp at h
           | some g'=>
             rw [hgj] at h;simp only [qaq] at h;subst h;rfl
       | _=>simp at h
section
variable {P:pG} {ext:Xt} {N n:Nat} (hE:∀ f,f<N->ext.l.elem f=false->zeO P f=true)
include hE
theorem zgx {ops:Array Oper} {fl i:Nat} {a:Act} {w:wD} {K:Env->wD->Prop} {M:Act->wD->Prop} {Q:Exit->Act->wD->Prop}
   (g0:zrq ext.l N n ops.toList=true) (hn:a.tmps.size=n) (h:zfZ P ext ops.toList fl i (zbF a) w K)
   (hM:∀ a' w',Kept n (zk4 ops.toList) a a'->K (zbF a') w'->M a' w'):wpOp P ops Q i M a w:=by
 cases ho:nth ops.toList i with
 | none=>simp [zfZ,ho] at h
 | some o=>
   obtain ⟨hc,hd,hm⟩:=zyJ g0 ho;have D:∀ v,zbF (a.put o.dst v)=put (zbF a) o.dst v:=λv=>zvq λt ht=>by rw [hn];exact hd t ht
   have C:∀ v,Kept n (zk4 ops.toList) a (a.put o.dst v):=λv=>
     ⟨by rw [zyG,hn],zBA a _ v,λt ht=>by rw [D];exact zvp λd hd e=>ht (e▸hm d hd)⟩
   rw [zdS ho] at h;obtain ⟨b,hb,h⟩:=h;unfold wpOp;rw [<-zdF,ho];simp only [zt8 hb];cases b with
   | false=>
     simp only [qa2,if_false] at h ⊢;exact hM _ _ (C _) (by rw [D];exact h)
   | true=>
     simp only [if_true] at h ⊢;refine .inl ?_;unfold opF at h;rw [zst] at h;refine Oper.wp_mono (λa' w'=>?_) (zvr hE hc h);rintro ⟨v,rfl,hk⟩;refine hM _ _ (C v) ?_;rw [D];cases hf:zbu fl i<;>rw [hf] at hk
     . exact hk
     exact hk.2
theorem zrr {ops:Array Oper} {fl:Nat} {K:Env->wD->Prop} {Q:Exit->Act->wD->Prop} (g0:zrq ext.l N n ops.toList=true) :
   ∀ (l:List Nat) (a:Act) (w:wD),a.tmps.size=n->zeU P ext ops.toList fl K l (zbF a) w ->
     (∀ a' w',Kept n (zk4 ops.toList) a a'->K (zbF a') w'->Q .normal a' w')->wpOps P ops Q l a w:=by
 intro l
 induction l with
 | nil=>intro a w hn h hq;exact hq a w (.refl _ hn) h
 | cons i l ih=>
   intro a w hn h hq;rw [wpOps_cons];exact zgx hE g0 hn h λa' w' hk hh=>ih a' w' hk.size hh λg1 w'' g2 g3=>hq g1 w'' (hk.trans g2 (λ_ h=>h) (λ_ h=>h)) g3
end
def zrs:List Oper->List Nat->List Nat
 | [],acc=>acc
 | o :: r,acc=>zrs r (acc++[o.after.toList.foldl (λm e=>bif Region.binds .any e then Nat.lor (Nat.lor m (Nat.shiftLeft 1 e.on)) (match nth acc e.on with | some k=>k | none=>0) else m) 0])
def zyK (ol:List Oper):List Nat:=zrs ol []
def zfQ (A:List Nat) (j:Nat):Nat:=match nth A j with | some k=>k | none=>0
theorem zBE {l:List Edge}
   (h:Nat.testBit (l.foldl (λm e=>bif Region.binds .any e then Nat.lor (Nat.lor m (Nat.shiftLeft 1 e.on)) (zfQ A e.on) else m) m) i=true) :
   Nat.testBit m i=true\/∃ e∈l,Region.binds .any e=true/\(e.on=i\/Nat.testBit (zfQ A e.on) i=true):=by
 induction l generalizing m with
 | nil=>exact .inl h
 | cons e l ih=>
   rcases ih h with h | ⟨e',he,hb,hh⟩
   . dsimp only at h;cases hb:Region.binds .any e with
     | false=>rw [hb] at h;exact .inl h
     | true=>
       rw [hb] at h;simp only [cond_true] at h;change Nat.testBit ((m ||| (1 <<< e.on)) ||| zfQ A e.on) i=true at h;simp only [qaX,qaQ] at h;rcases h with (h | h) | h
       . exact .inl h
       . refine .inr ⟨e,ss,hb,.inl ?_⟩;rw [Nat.one_shiftLeft,qaU] at h;simpa using h
       exact .inr ⟨e,ss,hb,.inr h⟩
   exact .inr ⟨e',by simp [he],hb,hh⟩
def zdT {α:Type} {l r:List α} (h:j<l.length):nth (l++r) j=nth l j:=by
 rw [zh3,zh3,List.getElem?_append_left h]
theorem zt9:∀ (ol:List Oper) (pre:List Oper) (C:List Nat),C.length=pre.length ->
   (∀ j o,nth pre j=some o->∀ i,Nat.testBit (zfQ C j) i=true->∃ e∈o.after,Region.binds .any e=true/\(e.on=i\/(e.on<j/\Nat.testBit (zfQ C e.on) i=true))) ->
   (zrs ol C).length=(pre++ol).length /\
   ∀ j o,nth (pre++ol) j=some o->∀ i,Nat.testBit (zfQ (zrs ol C) j) i=true->∃ e∈o.after,Region.binds .any e=true/\(e.on=i\/(e.on<j/\Nat.testBit (zfQ (zrs ol C) e.on) i=true)):=by
 intro ol
 induction ol with
 | nil=>intro pre C hl h;simpa [zrs] using ⟨hl,h⟩
 | cons o r ih=>
   intro pre C hl h;have step:=ih (pre++[o]) (C++[o.after.toList.foldl (λm e=>bif Region.binds .any e then Nat.lor (Nat.lor m (Nat.shiftLeft 1 e.on)) (match nth C e.on with | some k=>k | none=>0) else m) 0]) (by simp [hl]) ?_
   . simpa [zrs] using step
   intro j p hp i hi;rcases qcv j pre.length with hj | hj | hj
   . rw [zdT hj] at hp;have g0:j<C.length:=oo;have g1:Nat.testBit (zfQ C j) i=true:=by simpa only [zfQ,zdT g0] using hi
     obtain ⟨e,he,hb,hh⟩:=h j p hp i g1;refine ⟨e,he,hb,hh.imp id λ⟨h1,h2⟩=>⟨h1,?_⟩⟩;simpa only [zfQ,zdT (show e.on<C.length by omega)] using h2
   . subst hj;have g2:p=o:=by rw [zh3] at hp;simpa using hp.symm
     subst g2
     have:zfQ (C++[p.after.toList.foldl (λm e=>bif Region.binds .any e then Nat.lor (Nat.lor m (Nat.shiftLeft 1 e.on)) (match nth C e.on with | some k=>k | none=>0) else m) 0]) pre.length=p.after.toList.foldl (λm e=>bif Region.binds .any e then Nat.lor (Nat.lor m (Nat.shiftLeft 1 e.on)) (zfQ C e.on) else m) 0:=by
       unfold zfQ;rw [zh3,<-hl];simp
     rw [this] at hi;rcases zBE hi with h0 | ⟨e,he,hb,hh⟩
     . simp at h0
     refine ⟨e,by simpa using he,hb,hh.imp id λh2=>?_⟩
     have g3:e.on<C.length:=by
       rcases qaw e.on C.length with h' | h'
       . exact h'
       have:zfQ C e.on=0:=by unfold zfQ;rw [zh3,List.getElem?_eq_none h']
       rw [this] at h2;simp at h2
     exact ⟨oo,by simpa only [zfQ,zdT g3] using h2⟩
   have:nth (pre++[o]) j=none:=by rw [zh3];simp;omega
   rw [this] at hp;cases hp
def zvt (ol:List Oper) (j:Nat) (o:Oper) (ho:nth ol j=some o) (i:Nat) (h:Nat.testBit (zfQ (zyK ol) j) i=true) :
   ∃ e∈o.after,Region.binds .any e=true/\(e.on=i\/(e.on<j/\Nat.testBit (zfQ (zyK ol) e.on) i=true)):=
 (zt9 ol [] [] rfl (by intro j o h;simp [nth] at h)).2 j o ho i h
end Go.Sh
namespace Go.Sh
open Go.RowKit (Below)
variable {N j m n p:Nat} {P:pG} {w:wD}
def zm6:List Nat->Bool
 | []=>true
 | x :: l=>!l.elem x&&zm6 l
def zCW (ol:List Oper):List Nat->List Nat->Bool
 | _,[]=>true
 | seen,i :: r=>(match nth ol i with | some o=>o.after.toList.all λe=>!Region.binds .any e || seen.elem e.on | none=>false)&&zCW ol (i :: seen) r
def zvu (ops:Array Oper) (A:List Nat) (fl i j:Nat):Bool:=
 zbu (zfQ A j) i || (match nth ops.toList i,nth ops.toList j with
   | some oi,some oj=>zrp oi&&!zbu fl i&&oi.apart ops oj&&(zrp oj || (zbu fl j || zeP oi))
   | _,_=>false)
def zh4 (ops:Array Oper) (A:List Nat) (fl:Nat):List Nat->Bool
 | []=>true
 | i :: r=>r.all (zvu ops A fl i)&&zh4 ops A fl r
def zAb (ops:Array Oper) (c:List Nat) (fl:Nat):Bool:=
 zm6 c&&(c.all λi=>Nat.blt i ops.size)&&((List.range ops.size).all λi=>c.elem i)&&zCW ops.toList [] c&&zh4 ops (zyK ops.toList) fl c
theorem zgy:∀ {l:List Nat},zm6 l=true->l.Nodup
 | [],_=>qas
 | x :: l,h=>by
   simp only [zm6,qap,qaT] at h;refine qaR.2 ⟨λhm=>?_,zgy h.2⟩;have:l.elem x=true:=qcN hm;rw [h.1] at this;cases this
theorem ziF {ops:Array Oper} {A:List Nat} {fl:Nat}:∀ {c1 c2:List Nat} {y:Nat},zh4 ops A fl (c1++y :: c2)=true ->
   (∀ x∈c1,zvu ops A fl x y=true)/\zh4 ops A fl (c1++c2)=true
 | [],c2,y,h=>by
   simp only [qbo,zh4,qap] at h;exact ⟨ss,h.2⟩
 | x :: c1,c2,y,h=>by
   simp only [qbE,zh4,qap,qaH] at h;obtain ⟨h1,h2⟩:=ziF h.2;refine ⟨λz hz=>?_,?_⟩
   . rcases qaa.1 hz with rfl | hz
     . exact h.1 y ss
     exact h1 z hz
   simp only [qbE,zh4,qap,qaH];exact ⟨λz hz=>h.1 z (by rcases qae.1 hz with hz | hz<;>simp [hz]),h2⟩
structure Closed (ops:Array Oper) (listed:Array Bool):Prop where
 size:listed.size=ops.size
 down:∀ j o,ops[j]?=some o->listed.getD j false=true->∀ e∈o.after,Region.binds .any e=true->listed.getD e.on false=true
theorem zm7 {ops:Array Oper} {listed:Array Bool} (hc:Closed ops listed):∀ (j:Nat) (o:Oper),ops[j]?=some o ->
   (∀ e∈o.after,Region.binds .any e=true->listed.getD e.on false=true)->∀ i,Nat.testBit (zfQ (zyK ops.toList) j) i=true->listed.getD i false=true:=by
 intro j
 induction j using Nat.strongRecOn with
 | _ j ih=>
   intro o ho hd i hi;obtain ⟨e,he,hb,hh⟩:=zvt ops.toList j o (by rw [zdF];exact ho) i hi;have hl:=hd e he hb;rcases hh with rfl | ⟨g0,hh⟩
   . exact hl
   cases ho':ops[e.on]? with
   | none=>
     have:e.on<ops.size:=Nat.lt_trans g0 (Array.getElem?_eq_some_iff.1 ho).1;simp at ho';omega
   | some o'=>exact ih e.on g0 o' ho' (λe' g1 g2=>hc.down e.on o' ho' hl e' g1 g2) i hh
def Top (ops:Array Oper) (listed:Array Bool):List Nat->Prop
 | []=>True
 | i :: r=>(∃ o,ops[i]?=some o/\∀ e∈o.after,Region.binds .any e=true->listed.getD e.on false=true)/\Top ops (listed.setIfInBounds i true) r
theorem zn6 {ops:Array Oper}:∀ {c1 c2:List Nat} {y:Nat} {l:Array Bool},Top ops l (c1++y :: c2)->Top ops (l.setIfInBounds y true) (c1++c2)
 | [],_,_,_,h=>h.2
 | x :: c1,c2,y,l,⟨⟨o,ho,hd⟩,ht⟩=>by
   refine ⟨⟨o,ho,λe he hb=>getD_set_true (hd e he hb)⟩,?_⟩;have h2:=zn6 ht;by_cases hxy:x=y
   . subst hxy;exact h2
   rw [Array.setIfInBounds_comm _ _ (Ne.symm hxy)];exact h2
theorem ziG {ops:Array Oper}:∀ {c seen:List Nat} {l:Array Bool},(∀ k,seen.elem k=true->l.getD k false=true)->(∀ i∈c,i<l.size)->zCW ops.toList seen c=true->Top ops l c
 | [],_,_,_,_,_=>trivial
 | i :: c,seen,l,h,hc,ht=>by
   simp only [zCW,qap] at ht;cases ho:nth ops.toList i with
   | none=>simp [ho] at ht
   | some o=>
     simp only [ho,qaH,qaQ,qaT] at ht;rw [zdF] at ho;refine ⟨⟨o,ho,λe he hb=>h _ ((ht.1 e (by simpa using he)).resolve_left (by simp [hb]))⟩,ziG (seen:=i :: seen) (λk hk=>?_) (λj hj=>by simpa using hc j (by simp [hj])) ht.2⟩;by_cases hik:i=k
     . subst hik;simp [hc i ss]
     rw [getD_set_ne false hik];refine h k ?_;have hm:k∈i :: seen:=qcO hk;rcases qaa.1 hm with e | hm
     . exact absurd e.symm hik
     exact qcN hm
section
variable {P:pG} {ext:Xt} {N n:Nat} (hE:∀ f,f<N->ext.l.elem f=false->zeO P f=true)
include hE
theorem zjx {ops:Array Oper} {fl:Nat} {K:Env->wD->Prop} {Q:Exit->Act->wD->Prop} (gi:zrq ext.l N n ops.toList=true) :
   ∀ (C:Nat) (c:List Nat) (listed:Array Bool) (a:Act) (w:wD),c.length=C->c.Nodup->(∀ j,j∈c↔listed.getD j true=false)->Closed ops listed->Top ops listed c ->
     zh4 ops (zyK ops.toList) fl c=true->a.tmps.size=n->zeU P ext ops.toList fl K c (zbF a) w ->
     (∀ a' w',Kept n (zk4 ops.toList) a a'->K (zbF a') w'->Q .normal a' w')->wpAny P .any ops Q C listed a w:=by
 intro C
 induction C with
 | zero=>
   intro c listed a w hl g4 hc g3 ht hp hn h hq;have g5:c=[]:=qaj hl;subst g5;refine ⟨?_,hq a w (.refl _ hn) h⟩;rw [qcx];intro j hj;exact absurd ((hc j).2 (mem_ready.1 hj).1) ss
 | succ C ih=>
   intro c listed a w hl g4 hc g3 ht hp hn h hq;refine ⟨λg0=>?_,λy hy=>?_⟩
   . cases c with
     | nil=>simp at hl
     | cons i r=>
       obtain ⟨⟨o,ho,hd⟩,_⟩:=ht;have:i∈Region.ready .any ops listed:=mem_ready.2 ⟨(hc i).1 ss,o,ho,hd⟩;rw [g0] at this;cases this
   obtain ⟨gd,oy,g9,M⟩:=mem_ready.1 hy;have gf:y∈c:=(hc y).2 gd;obtain ⟨c1,c2,rfl⟩:=qcl gf;have g1:nth ops.toList y=some oy:=by rw [zdF];exact g9
   obtain ⟨gg,gh⟩:=ziF hp
   have g2:∀ x∈c1,∃ ox,nth ops.toList x=some ox/\zrp ox=true/\zbu fl x=false/\ox.apart ops oy=true/\(zrp oy=true\/zbu fl y=true\/zeP ox=true):=by
     intro x hx;have D:=gg x hx;unfold zvu at D;rw [qaQ] at D;rcases D with hb | hb
     . exfalso;rw [zf1] at hb;have h1:=zm7 g3 y oy g9 M x hb;have h2:=(hc x).1 (by simp [hx]);rcases qaw x listed.size with h' | h'
       . simp [h'] at h1 h2;rw [h1] at h2;cases h2
       simp [Array.getElem?_eq_none h'] at h1
     rw [g1] at hb;cases hox:nth ops.toList x with
     | none=>simp [hox] at hb
     | some ox=>
       simp only [hox,qap,qaT,qaQ] at hb;exact ⟨ox,rfl,hb.1.1.1,hb.1.1.2,hb.1.2,hb.2⟩
   have h':=zt7 g1 c2 c1 (zbF a) w g2 h;refine zgx hE gi hn h' λa' w' hk hh=>?_
   have gb:y<listed.size:=by
     rcases qaw y listed.size with h' | h'
     . exact h'
     simp [Array.getElem?_eq_none h'] at gd
   have O:=g4;rw [qav] at O;refine ih (c1++c2) (listed.setIfInBounds y true) a' w' (by simp at hl ⊢;omega) ?_ ?_ ⟨by simp [g3.size],?_⟩ (zn6 ht) gh hk.size hh ?_
   . have:=g4.sublist (l₁:=c1++c2) (qbT (qb3 y c2) c1);exact this
   . intro j;by_cases hjy:y=j
     . subst hjy
       have gc:y∉c1++c2:=by
         intro hm;rcases qae.1 hm with hm | hm
         . exact O.2.2 y hm y ss rfl
         exact (qaR.1 O.2.1).1 hm
       simp [gc,gb]
     rw [getD_set_ne true hjy,<-hc j];simp only [qae,qaa];constructor
     . rintro (h | h)<;>simp [h]
     rintro (h | h | h)
     . exact .inl h
     . exact absurd h.symm hjy
     exact .inr h
   . intro j o ho hj e he hb;by_cases hjy:y=j
     . subst hjy;rw [g9] at ho;cases ho;exact getD_set_true (M e he hb)
     rw [getD_set_ne false hjy] at hj;exact getD_set_true (g3.down j o ho hj e he hb)
   exact λgj w'' gl gn=>hq gj w'' (hk.trans gl (λ_ h=>h) (λ_ h=>h)) gn
end
def zEq (ops:Array Oper) (A:List Nat) (p i k:Nat):Bool:=
 zbu (zfQ A k) i || (match nth ops.toList i,nth ops.toList k with
   | some oi,some ok=>bif Nat.ble p k then Nat.blt i p&&(zeP oi&&oi.apart ops ok) else !(zeP oi&&zeP ok) || oi.apart ops ok
   | _,_=>false)
def zn7 (ops:Array Oper) (m p:Nat):Bool:=
 Nat.ble p ops.size&&zm6 (zk4 ops.toList)&&(ops.toList.all λo=>o.guard.isNone)&&((zk4 ops.toList).all λt=>zbu m t)&&((ops.toList.take p).all λo=>o.dst.isSome) &&
   zCW ops.toList [] (List.range ops.size)&&((List.range ops.size).all λk=>(List.range k).all λi=>zEq ops (zyK ops.toList) p i k)
theorem zk5 {P:pG} {ext:Xt} {ol:List Oper} {m:Nat} {s:Env} {w:wD} {Q:ParQ}:∀ {l:List Oper} {k:Nat},zgv P ext ol m s w Q k l ->
   ∀ i o,l[i]?=some o->∀ (u:Env) (T:Nat->Nat×Nat) (w1:wD),Ext w w1->zn3 (onL o.after.toList) w.heap.size w1.heap.size T->ziB Q u T w1 o.after.toList ->
     opK P ext o (ev (mix m s u)) w1 (λv w2=>Ext w1 w2/\Q (k+i) (upd u (zmT ol (k+i)) v) (zmQ T (k+i) (w1.heap.size,w2.heap.size)) w2)
 | [],_,_,i,o,ho=>by simp at ho
 | x :: l,k,h,0,o,ho=>by
   simp only [List.getElem?_cons_zero,qaq] at ho;subst ho;exact h.1
 | x :: l,k,h,i+1,o,ho=>by
   have:=zk5 h.2 i o (by simpa using ho);rwa [show k+(i+1)=k+1+i by omega]
theorem zk6 {Q:ParQ} {u:Env} {T:Nat->Nat×Nat} {w:wD}:∀ {n k:Nat},(∀ i,i<n->Q (k+i) u T w)->zkc Q u T w k n
 | 0,_,_=>trivial
 | n+1,k,h=>⟨h 0 oo,zk6 λi hi=>by have:=h (i+1) oo;rwa [show k+1+i=k+(i+1) by omega]⟩
theorem ziH {Q:ParQ} {u:Env} {T:Nat->Nat×Nat} {w:wD}:∀ {l:List Edge},(∀ e∈l,Region.binds .any e=true->Q e.on u T w)->ziB Q u T w l
 | [],_=>trivial
 | e :: l,h=>by
   simp only [ziB];cases hb:Region.binds .any e
   . exact ziH λx hx=>h x (by simp [hx])
   exact ⟨h e ss hb,ziH λx hx=>h x (by simp [hx])⟩
theorem zn8:∀ {l:List Edge} {i:Nat},i∈onL l->∃ e∈l,Region.binds .any e=true/\e.on=i
 | [],_,h=>by simp [onL] at h
 | e :: l,i,h=>by
   simp only [onL] at h;cases hb:Region.binds .any e
   . rw [hb] at h;obtain ⟨x,hx,h2⟩:=zn8 (l:=l) h;exact ⟨x,by simp [hx],h2⟩
   rw [hb] at h;simp only [cond_true,qaa] at h;rcases h with rfl | h
   . exact ⟨e,ss,hb,rfl⟩
   obtain ⟨x,hx,h2⟩:=zn8 (l:=l) h;exact ⟨x,by simp [hx],h2⟩
theorem zrt {ol:List Oper}:∀ {l:List Edge} {p:Nat×Nat},p∈onD ol l->p.2=zmT ol p.1/\∃ e∈l,Region.binds .any e=true/\e.on=p.1
 | [],_,h=>by simp [onD] at h
 | e :: l,p,h=>by
   simp only [onD] at h;cases hb:Region.binds .any e
   . rw [hb] at h;obtain ⟨h0,x,hx,h2⟩:=zrt (l:=l) h;exact ⟨h0,x,by simp [hx],h2⟩
   rw [hb] at h;simp only [cond_true,qaa] at h;rcases h with rfl | h
   . exact ⟨rfl,e,ss,hb,rfl⟩
   obtain ⟨h0,x,hx,h2⟩:=zrt (l:=l) h;exact ⟨h0,x,by simp [hx],h2⟩
theorem zpz {ol:List Oper}:∀ {l:List Oper} {k i:Nat} {p:Nat×Nat},p∈zrl (zh2 ol k l) i->p.2=zmT ol p.1/\∃ o,l[i]?=some o/\(p.1=k+i\/∃ e∈o.after.toList,Region.binds .any e=true/\e.on=p.1)
 | [],_,_,_,h=>by simp [zh2,zrl,nth] at h
 | o :: l,k,0,p,h=>by
   simp only [zh2,zrl,nth,qaa] at h;rcases h with rfl | h
   . exact ⟨rfl,o,rfl,.inl rfl⟩
   obtain ⟨h0,h1⟩:=zrt h;exact ⟨h0,o,rfl,.inr h1⟩
 | o :: l,k,i+1,p,h=>by
   have h':p∈zrl (zh2 ol (k+1) l) i:=h;obtain ⟨h0,o',ho,h1⟩:=zpz h';exact ⟨h0,o',by simpa using ho,h1.imp (λe=>oo) id⟩
theorem zsv {ol:List Oper} (hn:(zk4 ol).Nodup):∀ {i j:Nat} {x y:Oper} {d:Nat},ol[i]?=some x->ol[j]?=some y->x.dst=some d->y.dst=some d->i=j:=by
 induction ol with
 | nil=>intro i j x y d hi;simp at hi
 | cons z l ih=>
   intro i j x y d hi hj hx hy;have g0:∀ {k:Nat} {o:Oper},l[k]?=some o->o.dst=some d->d∈zk4 l:=λhk ho=>qb6.2 ⟨_,List.mem_of_getElem? hk,ho⟩
   have g1:(zk4 l).Nodup:=by
     unfold zk4 at hn ⊢;rw [List.filterMap_cons] at hn;split at hn
     . exact hn
     exact (qaR.1 hn).2
   have hz:z.dst=some d->d∉zk4 l:=λhz=>by
     unfold zk4 at hn ⊢;rw [List.filterMap_cons,hz] at hn;exact (qaR.1 hn).1
   cases i with
   | zero=>
     simp only [List.getElem?_cons_zero,qaq] at hi;subst hi;cases j with
     | zero=>rfl
     | succ j=>exact absurd (g0 (by simpa using hj) hy) (hz hx)
   | succ i=>
     cases j with
     | zero=>
       simp only [List.getElem?_cons_zero,qaq] at hj;subst hj;exact absurd (g0 (by simpa using hi) hx) (hz hy)
     | succ j=>exact qat (·+1) (ih g1 (i:=i) (j:=j) (by simpa using hi) (by simpa using hj) hx hy)
def zhz {s u:Env} (h:∀ t,zbu m t=false->u t=s t):mix m s u=u:=by
 funext t;unfold mix;cases ht:zbu m t
 . exact (h t ht).symm
 rfl
def zgz:j∈(List.range n).drop p↔p<=j/\j<n:=by
 rw [List.mem_drop_iff_getElem];constructor
 . rintro ⟨_,hi,he⟩;simp at he hi;omega
 rintro ⟨_,_⟩;exact ⟨j-p,by simp;omega,by simp;omega⟩
structure PInv (ops:Array Oper) (p m:Nat) (Q:ParQ) (s0:Env) (w0:wD) (c:List Nat) (listed:Array Bool) (s:Env) (T:Nat->Nat×Nat) (w:wD):Prop where
 nodup:(c++(List.range ops.size).drop p).Nodup
 mem:∀ j,j∈c++(List.range ops.size).drop p↔listed.getD j true=false
 lt:∀ j∈c,j<p
 sorted:c.Pairwise (· < ·)
 closed:Closed ops listed
 top:Top ops listed (c++(List.range ops.size).drop p)
 ext:Ext w0 w
 env:∀ t,zbu m t=false->s t=s0 t
 t1:∀ j,j<p->listed.getD j false=true->w0.heap.size<=(T j).1/\(T j).1<=(T j).2/\(T j).2<=w.heap.size
 t2:∀ i j,i<p->j<p->listed.getD i false=true->listed.getD j false=true->i≠j->(T i).2<=(T j).1\/(T j).2<=(T i).1
 q:∀ j,j<p->listed.getD j false=true->Q j s T w
section
variable {ops:Array Oper} {p m:Nat} {Q:ParQ} {s0 s:Env} {w0 w w':wD} {c c1 c2:List Nat} {listed:Array Bool} {T:Nat->Nat×Nat} {y dy:Nat} {oy:Oper} {v:vL}
def PInv.edge (h:PInv ops p m Q s0 w0 c listed s T w) (g0:∀ e∈oy.after,Region.binds .any e=true->listed.getD e.on false=true) :
   ∀ e∈oy.after.toList,Region.binds .any e=true->e.on<p/\listed.getD e.on false=true:=λe he hb=>by
 have hle:=g0 e (by simpa using he) hb
 have hlt':e.on<ops.size:=by
   rcases qaw e.on listed.size with h' | h'
   . rw [h.closed.size] at h';exact h'
   simp [Array.getElem?_eq_none h'] at hle
 refine ⟨?_,hle⟩;rcases qaw e.on p with h' | h'
 . exact h'
 exfalso;have h2:=(h.mem e.on).1 (qbw _ (zgz.2 ⟨h',hlt'⟩));have h3:e.on<listed.size:=by rw [h.closed.size];exact hlt'
 simp [h3] at hle h2;rw [hle] at h2;cases h2
def PInv.ready (h:PInv ops p m Q s0 w0 c listed s T w) {P:pG} {ext:Xt} (hs:zgv P ext ops.toList m s0 w0 Q 0 (ops.toList.take p)) (hp:zn7 ops m p=true)
   (g5:y<p) (g3:ops[y]?=some oy) (g0:∀ e∈oy.after,Region.binds .any e=true->listed.getD e.on false=true) (gb:oy.dst=some dy) :
   opK P ext oy (ev s) w (λv w2=>Ext w w2/\Q y (upd s dy v) (zmQ T y (w.heap.size,w2.heap.size)) w2):=by
 have C:=h.edge g0
 have M:∀ i∈onL oy.after.toList,i<p/\listed.getD i false=true:=λi hi=>by
   obtain ⟨e,he,hb,rfl⟩:=zn8 hi;exact C e he hb
 have g1:ops.toList[y]?=some oy:=by simpa using g3
 have g4:(ops.toList.take p)[y]?=some oy:=by rw [List.getElem?_take,qah g5];exact g1
 have D:=zk5 hs y oy g4 s T w h.ext ⟨λi hi=>h.t1 i (M i hi).1 (M i hi).2,λi hi j hj g9=>h.t2 i j (M i hi).1 (M j hj).1 (M i hi).2 (M j hj).2 g9⟩
   (ziH λe he hb=>h.q e.on (C e he hb).1 (C e he hb).2)
 have g2:zmT ops.toList y=dy:=by
   unfold zmT;rw [zdF,g3];simp only [qcA,gb]
 rw [zhz h.env] at D;simp only [qba,g2] at D;exact D
theorem PInv.step (h:PInv ops p m Q s0 w0 (c1++y :: c2) listed s T w) (hp:zn7 ops m p=true)
   (st:∀ i u u' T T' w1 w2,Ext w0 w1->Ext w1 w2->(∀ q∈zrl (zh2 ops.toList 0 (ops.toList.take p)) i,u' q.2=u q.2/\T' q.1=T q.1)->Q i u T w1->Q i u' T' w2)
   (gh:listed.getD y true=false) (gb:ops[y]?=some oy) (g2:∀ e∈oy.after,Region.binds .any e=true->listed.getD e.on false=true) (gj:oy.dst=some dy)
   (g3:Ext w w') (gz:Q y (upd s dy v) (zmQ T y (w.heap.size,w'.heap.size)) w') :
   PInv ops p m Q s0 w0 (c1++c2) (listed.setIfInBounds y true) (upd s dy v) (zmQ T y (w.heap.size,w'.heap.size)) w':=by
 simp only [zn7,qap,qaH] at hp;obtain ⟨⟨⟨⟨⟨⟨_,p2⟩,_⟩,p4⟩,p5⟩,_⟩,_⟩:=hp;have gs:=zgy p2;obtain ⟨g4,hc,gi,gt,V,ht,hx,g5,g9,gx,hQ⟩:=h;have gy:y<ops.size:=(Array.getElem?_eq_some_iff.1 gb).1;have g0:y<listed.size:=by rw [V.size];exact gy
 have g1:ops.toList[y]?=some oy:=by simpa using gb
 have hyp:=gi y ss;rw [qaA,qbE] at g4 hc ht;have M:=g4;rw [qav] at M;have D:∀ j,y≠j->(listed.setIfInBounds y true).getD j false=true->listed.getD j false=true:=λj C hj=>by rwa [getD_set_ne false C] at hj
 have gc:zmQ T y (w.heap.size,w'.heap.size) y=(w.heap.size,w'.heap.size):=by simp [zmQ]
 have Z:∀ j,j≠y->zmQ T y (w.heap.size,w'.heap.size) j=T j:=λj hj=>by
   have:Nat.beq j y=false:=by rw [<-qch,Nat.beq_eq];exact hj
   simp [zmQ,this]
 have gd:dy∈zk4 ops.toList:=qb6.2 ⟨oy,List.mem_of_getElem? g1,gj⟩;refine ⟨?_,?_,λj hj=>gi j (by rcases qae.1 hj with h | h<;>simp [h]),gt.sublist (qbT (qb3 y _) c1),⟨by simp [V.size],?_⟩,?_,hx.t g3,λt hm=>?_,?_,?_,?_⟩
 . rw [qaA];exact g4.sublist (qbT (qb3 y _) c1)
 . intro j;rw [qaA];by_cases C:y=j
   . subst C
     have gf:y∉c1++(c2++(List.range ops.size).drop p):=by
       intro hm;rcases qae.1 hm with hm | hm
       . exact M.2.2 y hm y ss rfl
       exact (qaR.1 M.2.1).1 hm
     simp only [gf,false_iff];simp [g0]
   rw [getD_set_ne true C,<-hc j];simp only [qae,qaa];constructor
   . rintro (h | h | h)
     . exact .inl h
     . exact .inr (.inr (.inl h))
     exact .inr (.inr (.inr h))
   rintro (h | h | h | h)
   . exact .inl h
   . exact absurd h.symm C
   . exact .inr (.inl h)
   exact .inr (.inr h)
 . intro j o ho hj e he hb;by_cases C:y=j
   . subst C;rw [gb] at ho;cases ho;exact getD_set_true (g2 e he hb)
   rw [getD_set_ne false C] at hj;exact getD_set_true (V.down j o ho hj e he hb)
 . rw [qaA];exact zn6 ht
 . rw [zcG _ _ (λe=>?_)]
   . exact g5 t hm
   subst e;have:=p4 _ gd;rw [this] at hm;cases hm
 . intro j O hj;by_cases C:j=y
   . rw [C,gc];exact ⟨hx.size,g3.size,qaE _⟩
   rw [Z j C];obtain ⟨h1,h2,h3⟩:=g9 j O (D j (λe=>C e.symm) hj);exact ⟨h1,h2,qal h3 g3.size⟩
 . intro i j gl O hi hj gn;by_cases hiy:i=y
   . have C:¬j=y:=λe=>gn (hiy.trans e.symm);rw [hiy,gc,Z j C];exact .inr (g9 j O (D j (λe=>C e.symm) hj)).2.2
   by_cases C:j=y
   . rw [C,gc,Z i hiy];exact .inl (g9 i gl (D i (λe=>hiy e.symm) hi)).2.2
   rw [Z i hiy,Z j C];exact gx i j gl O (D i (λe=>hiy e.symm) hi) (D j (λe=>C e.symm) hj) gn
 intro j O hj;by_cases C:j=y
 . rw [C];exact gz
 have gg:=D j (λe=>C e.symm) hj;refine st j s _ T _ w w' hx g3 (λq hq=>?_) (hQ j O gg);obtain ⟨h0,o,ho,h1⟩:=zpz hq
 have gA:ops.toList[j]?=some o:=by
   rw [List.getElem?_take,qah O] at ho;exact ho
 have gp:ops[j]?=some o:=by simpa using gA
 have U:listed.getD q.1 false=true/\q.1<ops.size:=by
   rcases h1 with h1 | ⟨e,he,hb,h1⟩
   . rw [qba] at h1;rw [h1];exact ⟨gg,(Array.getElem?_eq_some_iff.1 gp).1⟩
   have:=V.down j o gp gg e (by simpa using he) hb;rw [h1] at this;refine ⟨this,?_⟩;rcases qaw q.1 listed.size with h' | h'
   . rw [V.size] at h';exact h'
   simp [Array.getElem?_eq_none h'] at this
 have gq:q.1≠y:=λe=>by
   rw [e] at U;have h1:=U.1;simp [g0] at h1 gh;rw [h1] at gh;cases gh
 refine ⟨?_,Z q.1 gq⟩;have gr:ops.toList[q.1]?=some ops[q.1]:=by simp [U.2]
 cases hdq:ops[q.1].dst with
 | none=>
   exfalso
   have gB:q.1<p:=by
     rcases h1 with h1 | ⟨e,he,hb,h1⟩
     . omega
     rcases qaw q.1 p with h' | h'
     . exact h'
     exfalso;have h2:=(hc q.1).1 (qbw _ (qcd _ (qbw _ (zgz.2 ⟨h',U.2⟩))));have h3:q.1<listed.size:=by rw [V.size];exact U.2
     have h4:=U.1;simp [h3] at h4 h2;rw [h4] at h2;cases h2
   have:=p5 ops[q.1] (List.mem_of_getElem? (l:=ops.toList.take p) (i:=q.1) (by rw [List.getElem?_take,qah gB];exact gr));rw [hdq] at this;cases this
 | some d=>
   have gC:q.2=d:=by
     rw [h0];unfold zmT;rw [zdF,Array.getElem?_eq_getElem U.2];simp only [qcA,hdq]
   rw [gC];have gD:d≠dy:=λe=>gq (zsv gs gr g1 hdq (e▸gj));exact zcG _ _ gD
theorem zsw {P:pG} {ext:Xt} {K:Env->wD->Prop} (hp:zn7 ops m p=true)
   (st:∀ i u u' T T' w1 w2,Ext w0 w1->Ext w1 w2->(∀ q∈zrl (zh2 ops.toList 0 (ops.toList.take p)) i,u' q.2=u q.2/\T' q.1=T q.1)->Q i u T w1->Q i u' T' w2)
   (hs:zgv P ext ops.toList m s0 w0 Q 0 (ops.toList.take p))
   (hf:∀ (u:Env) (T:Nat->Nat×Nat) (w1:wD),Ext w0 w1->zn3 (List.range p) w0.heap.size w1.heap.size T->zkc Q u T w1 0 p->zeU P ext ops.toList 0 K ((List.range ops.toList.length).drop p) (mix m s0 u) w1) :
   ∀ (c:List Nat) (listed:Array Bool) (s:Env) (T:Nat->Nat×Nat) (w:wD),PInv ops p m Q s0 w0 c listed s T w->(∀ i∈c,∃ o,ops[i]?=some o/\zeP o=true) ->
     zeU P ext ops.toList 0 K (c++(List.range ops.size).drop p) s w:=by
 have g4:=hp;simp only [zn7,qap,qaH] at g4;obtain ⟨⟨⟨⟨⟨⟨p1,_⟩,p3⟩,_⟩,p5⟩,_⟩,_⟩:=g4;have hpn:p<=ops.size:=qbv p1;intro c
 induction c with
 | nil=>
   intro listed s T w h _
   have C:∀ j,j<p->listed.getD j false=true:=λj hj=>by
     have h2:¬listed.getD j true=false:=λe=>by
       have:=(h.mem j).2 e;rw [qbo] at this;have:=(zgz.1 this).1;omega
     have h3:j<listed.size:=by rw [h.closed.size];omega
     simp [h3] at h2 ⊢;exact h2
   have hv:=hf s T w h.ext ⟨λi hi=>h.t1 i (qaL.1 hi) (C i (qaL.1 hi)),λi hi j hj gd=>h.t2 i j (qaL.1 hi) (qaL.1 hj) (C i (qaL.1 hi)) (C j (qaL.1 hj)) gd⟩
     (zk6 λi hi=>by rw [qba];exact h.q i hi (C i hi))
   rw [zhz h.env,show ops.toList.length=ops.size by simp] at hv;exact hv
 | cons y c2 ih=>
   intro listed s T w h g5;obtain ⟨⟨oy,M,D⟩,_⟩:=h.top;obtain ⟨o',g9,gb⟩:=g5 y ss;have:o'=oy:=by rw [M] at g9;cases g9;rfl
   subst this;have gc:=h.lt y ss;have g0:ops.toList[y]?=some o':=by simpa using M
   have gf:(ops.toList.take p)[y]?=some o':=by rw [List.getElem?_take,qah gc];exact g0
   obtain ⟨dy,g2⟩:=qbx.1 (p5 o' (List.mem_of_getElem? gf))
   have gg:o'.guard=none:=by
     have:=p3 o' (List.mem_of_getElem? g0);simpa using this
   have gh:listed.getD y true=false:=(h.mem y).1 ss;have g1:=h.ready hs hp gc M D g2;obtain ⟨v,hv,gi,gj⟩:=(ziE (zha gb)).1 g1;rw [qbE];unfold zeU;rw [zdS (o:=o') (by rw [zdF];exact M)];refine ⟨true,by unfold gOk;rw [gg],?_⟩;simp only [if_true];unfold opF;have gl:zbu 0 y=false:=by rw [zf1];simp
   rw [gl];refine (ziE (zha gb)).2 ⟨v,hv,?_⟩;have g3:put s o'.dst v=upd s dy v:=by rw [g2];rfl
   rw [g3];exact ih _ _ _ _ (PInv.step (c1:=[]) h hp st gh M D g2 gi gj) λi hi=>g5 i (by simp [hi])
end
theorem zpA {ops:Array Oper} (p7:∀ k∈List.range ops.size,∀ i∈List.range k,zEq ops (zyK ops.toList) p i k=true) {c:List Nat} (gb:∀ j∈c,j<p) (g9:c.Pairwise (· < ·)) (C:∀ i∈c,∃ o,ops[i]?=some o/\zeP o=true) :
   zh4 ops (zyK ops.toList) 0 (c++(List.range ops.size).drop p)=true:=by
 have g0:(c++(List.range ops.size).drop p).Pairwise (· < ·):=by
   rw [qce];exact ⟨g9,qc0 (List.drop_sublist _ _) qcr,λi hi j hj=>by have:=gb i hi;have:=(zgz.1 hj).1;omega⟩
 have g2:∀ j∈c++(List.range ops.size).drop p,j<ops.size:=λj hj=>by
   rcases qae.1 hj with h | h
   . obtain ⟨o,ho,_⟩:=C j h;exact (Array.getElem?_eq_some_iff.1 ho).1
   exact (zgz.1 h).2
 have g1:∀ i∈c++(List.range ops.size).drop p,∀ j∈c++(List.range ops.size).drop p,i<j->zvu ops (zyK ops.toList) 0 i j=true:=by
   intro i hi j hj gc;have hA:=p7 j (qaL.2 (g2 j hj)) i (qaL.2 gc);have h0:zbu 0 i=false:=by rw [zf1];simp
   unfold zEq at hA;unfold zvu;rw [qaQ] at hA ⊢;refine hA.imp id λhA=>?_;cases hoi:nth ops.toList i with
   | none=>simp [hoi] at hA
   | some oi=>
     cases hoj:nth ops.toList j with
     | none=>simp [hoi,hoj] at hA
     | some oj=>
       simp only [hoi,hoj] at hA ⊢;cases hb:Nat.ble p j with
       | true=>
         simp only [hb,cond_true,qap] at hA;simp [zha hA.2.1,h0,hA.2.1,hA.2.2]
       | false=>
         have gd:j<p:=by
           rcases qaw j p with h | h
           . exact h
           rw [qc1 h] at hb;cases hb
         have g3:∀ q∈c++(List.range ops.size).drop p,q<p->q∈c:=λq hq _=>by
           rcases qae.1 hq with h | h
           . exact h
           have:=(zgz.1 h).1;omega
         obtain ⟨_,gf,g4⟩:=C i (g3 i hi oo);obtain ⟨_,gg,g5⟩:=C j (g3 j hj gd);rw [zdF,gf] at hoi;rw [zdF,gg] at hoj;cases hoi;cases hoj;simp only [hb,cond_false,g4,g5,qdc,Bool.not_true,qdb] at hA;simp [zha g4,zha g5,h0,hA]
 generalize c++(List.range ops.size).drop p=l at g0 g1;clear g2
 induction l with
 | nil=>rfl
 | cons x r ih=>
   rw [qaW] at g0;simp only [zh4,qap,qaH];exact ⟨λj hj=>g1 x ss j (by simp [hj]) (g0.1 j hj),ih g0.2 λi hi j hj=>g1 i (by simp [hi]) j (by simp [hj])⟩
section
variable {P:pG} {ext:Xt} {N n:Nat} (hE:∀ f,f<N->ext.l.elem f=false->zeO P f=true)
include hE
theorem zvv {ops:Array Oper} {m p:Nat} {K:Env->wD->Prop} {QQ:Exit->Act->wD->Prop} (g9:zrq ext.l N n ops.toList=true) (hp:zn7 ops m p=true)
   {a0:Act} {w0:wD} {Q:ParQ} (st:∀ i u u' T T' w1 w2,Ext w0 w1->Ext w1 w2->(∀ q∈zrl (zh2 ops.toList 0 (ops.toList.take p)) i,u' q.2=u q.2/\T' q.1=T q.1)->Q i u T w1->Q i u' T' w2) (hs:zgv P ext ops.toList m (zbF a0) w0 Q 0 (ops.toList.take p))
   (hf:∀ (u:Env) (T:Nat->Nat×Nat) (w1:wD),Ext w0 w1->zn3 (List.range p) w0.heap.size w1.heap.size T->zkc Q u T w1 0 p->zeU P ext ops.toList 0 K ((List.range ops.toList.length).drop p) (mix m (zbF a0) u) w1)
   (hq:∀ a' w',Kept n (zk4 ops.toList) a0 a'->K (zbF a') w'->QQ .normal a' w') :
   ∀ (k:Nat) (c:List Nat) (listed:Array Bool) (a:Act) (w:wD) (T:Nat->Nat×Nat),c.length=k->PInv ops p m Q (zbF a0) w0 c listed (zbF a) T w->a.tmps.size=n->Kept n (zk4 ops.toList) a0 a ->
     wpAny P .any ops QQ (k+((List.range ops.size).drop p).length) listed a w:=by
 have gf:=hp;simp only [zn7,qap,qaH] at gf;obtain ⟨⟨⟨⟨⟨⟨p1,_⟩,p3⟩,_⟩,p5⟩,_⟩,p7⟩:=gf;have hpn:p<=ops.size:=qbv p1;intro k
 induction k with
 | zero=>
   intro c listed a w T hl h hn hk;have g5:c=[]:=qaj hl;subst g5;have hv:=zsw (P:=P) (ext:=ext) hp st hs hf [] listed (zbF a) T w h ss;refine zjx hE g9 _ _ listed a w ss h.nodup h.mem h.closed h.top ?_ hn hv λa' w' M hh=>hq a' w' (hk.trans M (λ_ h=>h) (λ_ h=>h)) hh;exact zpA p7 (c:=[]) ss ss ss
 | succ k ih=>
   intro c listed a w T hl h hn hk;by_cases hall:∀ i∈c,∃ o,ops[i]?=some o/\zeP o=true
   . have hv:=zsw (P:=P) (ext:=ext) hp st hs hf c listed (zbF a) T w h hall;refine zjx hE g9 _ _ listed a w (by simp [hl]) h.nodup h.mem h.closed h.top ?_ hn hv λa' w' M hh=>hq a' w' (hk.trans M (λ_ h=>h) (λ_ h=>h)) hh;exact zpA p7 h.lt h.sorted hall
   rw [show k+1+((List.range ops.size).drop p).length=(k+((List.range ops.size).drop p).length)+1 by omega];refine ⟨λg0=>?_,λy hy=>?_⟩
   . cases c with
     | nil=>simp at hl
     | cons i r=>
       obtain ⟨⟨o,ho,hd⟩,_⟩:=h.top;have:i∈Region.ready .any ops listed:=mem_ready.2 ⟨(h.mem i).1 ss,o,ho,hd⟩;rw [g0] at this;cases this
   obtain ⟨gg,oy,D,C⟩:=mem_ready.1 hy;have gi:y∈c++(List.range ops.size).drop p:=(h.mem y).2 gg;have g1:ops.toList[y]?=some oy:=by simpa using D
   have gj:y<ops.size:=(Array.getElem?_eq_some_iff.1 D).1
   have gh:y∈c:=by
     rcases qae.1 gi with h1 | h1
     . exact h1
     exfalso;refine hall λi hi=>?_;have hip:=h.lt i hi;have g4:=(zgz.1 h1).1;have hA:=p7 y (qaL.2 gj) i (qaL.2 oo);unfold zEq at hA;rw [qaQ] at hA;rcases hA with hA | hA
     . exfalso;rw [zf1] at hA;have h1:=zm7 h.closed y oy D C i hA;have h2:=(h.mem i).1 (qa1 _ hi);rcases qaw i listed.size with h' | h'
       . simp [h'] at h1 h2;rw [h1] at h2;cases h2
       simp [Array.getElem?_eq_none h'] at h1
     have hb:Nat.ble p y=true:=qc1 g4;cases hoi:nth ops.toList i with
     | none=>simp [hoi] at hA
     | some oi=>
       rw [hoi,zdF,D] at hA;simp only [hb,cond_true,qap] at hA;have g2:=hoi;rw [zdF] at g2;exact ⟨oi,g2,hA.2.1⟩
   have g4:=h.lt y gh;obtain ⟨c1,c2,rfl⟩:=qcl gh;have gb:nth ops.toList y=some oy:=by rw [zdF];exact D
   have gl:oy.guard=none:=by
     have:=p3 oy (List.mem_of_getElem? g1);simpa using this
   have gn:(ops.toList.take p)[y]?=some oy:=by rw [List.getElem?_take,qah g4];exact g1
   obtain ⟨dy,gc⟩:=qbx.1 (p5 oy (List.mem_of_getElem? gn));have g3:=h.ready hs hp g4 D C gc
   have h':zfZ P ext ops.toList 0 y (zbF a) w (λs' w'=>∃ v,s'=put (zbF a) oy.dst v/\Ext w w'/\Q y (upd (zbF a) dy v) (zmQ T y (w.heap.size,w'.heap.size)) w'):=by
     rw [zdS gb];refine ⟨true,by unfold gOk;rw [gl],?_⟩;simp only [if_true];unfold opF;have:zbu 0 y=false:=by rw [zf1];simp
     rw [this];exact ziD (λv w' hh=>⟨v,rfl,hh.1,hh.2⟩) g3
   refine zgx hE g9 hn h' λa' w' M ⟨v,hv,gp,gq⟩=>ih (c1++c2) (listed.setIfInBounds y true) a' w' (zmQ T y (w.heap.size,w'.heap.size)) (by simp at hl ⊢;omega) ?_ M.size (hk.trans M (λ_ h=>h) (λ_ h=>h));have gd:zbF a'=upd (zbF a) dy v:=by rw [hv,gc];rfl
   rw [gd];exact h.step hp st gg D C gc gp gq
end
def zm8 (ops:Array Oper) (m:Nat):Bool:=
 zm6 (zk4 ops.toList)&&(ops.toList.all λo=>o.guard.isNone)&&((zk4 ops.toList).all λt=>zbu m t)&&zCW ops.toList [] (List.range ops.size)
theorem zkd {P:pG} {ext:Xt} {m:Nat} {s:Env} {w:wD} {B:wD->Prop} {R:Nat->wD->wD->Prop} {Q:ParQ}:∀ {l:List Oper} {k:Nat},zf0 P ext m s w B R Q k l ->
   ∀ i o,l[i]?=some o->∀ (u:Env) (T:Nat->Nat×Nat) (w1:wD),B w1->w.heap.size<=w1.heap.size->zn3 (onL o.after.toList) w.heap.size w1.heap.size T->ziB Q u T w1 o.after.toList ->
     opK P ext o (ev (mix m s u)) w1 (λv w2=>R (k+i) w1 w2/\Q (k+i) (put u o.dst v) (zmQ T (k+i) (w1.heap.size,w2.heap.size)) w2)
 | [],_,_,i,o,ho=>by simp at ho
 | x :: l,k,h,0,o,ho=>by
   simp only [List.getElem?_cons_zero,qaq] at ho;subst ho;exact h.1
 | x :: l,k,h,i+1,o,ho=>by
   have:=zkd h.2 i o (by simpa using ho);rwa [show k+(i+1)=k+1+i by omega]
theorem zm9 {ol:List Oper} {p:Nat×Nat} (h:p∈zpw ol j):p.1=j/\∃ o,ol[j]?=some o/\o.dst=some p.2:=by
 unfold zpw at h;rw [zh3] at h;cases ho:ol[j]? with
 | none=>simp [ho] at h
 | some o=>
   cases hd:o.dst with
   | none=>simp [ho,hd] at h
   | some d=>
     simp [ho,hd] at h;subst h;exact ⟨rfl,o,rfl,hd⟩
theorem zn9 {ol:List Oper}:∀ {l:List Edge} {p:Nat×Nat},p∈zBz ol l->(∃ o,ol[p.1]?=some o/\o.dst=some p.2)/\∃ e∈l,Region.binds .any e=true/\e.on=p.1
 | [],_,h=>by simp [zBz] at h
 | e :: l,p,h=>by
   simp only [zBz] at h;cases hb:Region.binds .any e
   . rw [hb] at h;obtain ⟨h0,x,hx,h2⟩:=zn9 (l:=l) h;exact ⟨h0,x,by simp [hx],h2⟩
   rw [hb] at h;simp only [cond_true,qae] at h;rcases h with h | h
   . obtain ⟨h1,h2⟩:=zm9 h;exact ⟨by rw [h1];exact h2,e,ss,hb,h1.symm⟩
   obtain ⟨h0,x,hx,h2⟩:=zn9 (l:=l) h;exact ⟨h0,x,by simp [hx],h2⟩
theorem zsx {ol:List Oper}:∀ {l:List Oper} {k i:Nat} {p:Nat×Nat},p∈zrl (zn4 ol k l) i->(∃ o,ol[p.1]?=some o/\o.dst=some p.2)/\∃ o,l[i]?=some o/\(p.1=k+i\/∃ e∈o.after.toList,Region.binds .any e=true/\e.on=p.1)
 | [],_,_,_,h=>by simp [zn4,zrl,nth] at h
 | o :: l,k,0,p,h=>by
   simp only [zn4,zrl,nth,qae] at h;rcases h with h | h
   . obtain ⟨h1,h2⟩:=zm9 h;exact ⟨by rw [h1];exact h2,o,rfl,.inl h1⟩
   obtain ⟨h0,h1⟩:=zn9 h;exact ⟨h0,o,rfl,.inr h1⟩
 | o :: l,k,i+1,p,h=>by
   have h':p∈zrl (zn4 ol (k+1) l) i:=h;obtain ⟨h0,o',ho,h1⟩:=zsx h';exact ⟨h0,o',by simpa using ho,h1.imp (λe=>oo) id⟩
structure GInv (ops:Array Oper) (m:Nat) (B:wD->Prop) (Q:ParQ) (s0:Env) (w0:wD) (c:List Nat) (listed:Array Bool) (s:Env) (T:Nat->Nat×Nat) (w:wD):Prop where
 nodup:c.Nodup
 mem:∀ j,j∈c↔listed.getD j true=false
 closed:Closed ops listed
 top:Top ops listed c
 base:B w
 sz:w0.heap.size<=w.heap.size
 env:∀ t,zbu m t=false->s t=s0 t
 t1:∀ j,listed.getD j false=true->w0.heap.size<=(T j).1/\(T j).1<=(T j).2/\(T j).2<=w.heap.size
 t2:∀ i j,listed.getD i false=true->listed.getD j false=true->i≠j->(T i).2<=(T j).1\/(T j).2<=(T i).1
 q:∀ j,listed.getD j false=true->Q j s T w
section
variable {ops:Array Oper} {m:Nat} {B:wD->Prop} {R:Nat->wD->wD->Prop} {Q:ParQ} {s0 s:Env} {w0 w w':wD} {c c1 c2:List Nat} {listed:Array Bool} {T:Nat->Nat×Nat} {y:Nat} {oy:Oper} {v:vL}
def GInv.ready (h:GInv ops m B Q s0 w0 c listed s T w) {P:pG} {ext:Xt} (hs:zf0 P ext m s0 w0 B R Q 0 ops.toList)
   (g1:ops[y]?=some oy) (D:∀ e∈oy.after,Region.binds .any e=true->listed.getD e.on false=true) :
   opK P ext oy (ev s) w (λv w2=>R y w w2/\Q y (put s oy.dst v) (zmQ T y (w.heap.size,w2.heap.size)) w2):=by
 have g0:∀ i∈onL oy.after.toList,listed.getD i false=true:=λi hi=>by
   obtain ⟨e,he,hb,rfl⟩:=zn8 hi;exact D e (by simpa using he) hb
 have C:=zkd hs y oy (by simpa using g1) s T w h.base h.sz ⟨λi hi=>h.t1 i (g0 i hi),λi hi j hj g2=>h.t2 i j (g0 i hi) (g0 j hj) g2⟩
   (ziH λe he hb=>h.q e.on (D e (by simpa using he) hb))
 rw [zhz h.env] at C;simp only [qba] at C;exact C
theorem GInv.step (h:GInv ops m B Q s0 w0 (c1++y :: c2) listed s T w) (hp:zm8 ops m=true)
   (bs:∀ j w1 w2,B w1->R j w1 w2->B w2) (sz:∀ j w1 w2,R j w1 w2->w1.heap.size<=w2.heap.size)
   (st:∀ i j u u' T T' w1 w2,i≠j->B w1->R j w1 w2->(∀ q∈zrl (zn4 ops.toList 0 ops.toList) i,u' q.2=u q.2/\T' q.1=T q.1)->Q i u T w1->Q i u' T' w2)
   (gg:listed.getD y true=false) (g9:ops[y]?=some oy) (g3:∀ e∈oy.after,Region.binds .any e=true->listed.getD e.on false=true)
   (hR:R y w w') (gr:Q y (put s oy.dst v) (zmQ T y (w.heap.size,w'.heap.size)) w') :
   GInv ops m B Q s0 w0 (c1++c2) (listed.setIfInBounds y true) (put s oy.dst v) (zmQ T y (w.heap.size,w'.heap.size)) w':=by
 simp only [zm8,qap,qaH] at hp;obtain ⟨⟨⟨p2,_⟩,p4⟩,_⟩:=hp;have gn:=zgy p2;obtain ⟨gh,hc,g4,ht,hB,gi,g0,g5,gp,hQ⟩:=h;have gq:y<ops.size:=(Array.getElem?_eq_some_iff.1 g9).1;have g1:y<listed.size:=by rw [g4.size];exact gq
 have g2:ops.toList[y]?=some oy:=by simpa using g9
 have M:=gh;rw [qav] at M;have D:∀ j,y≠j->(listed.setIfInBounds y true).getD j false=true->listed.getD j false=true:=λj C hj=>by rwa [getD_set_ne false C] at hj
 have gb:zmQ T y (w.heap.size,w'.heap.size) y=(w.heap.size,w'.heap.size):=by simp [zmQ]
 have U:∀ j,j≠y->zmQ T y (w.heap.size,w'.heap.size) j=T j:=λj hj=>by
   have:Nat.beq j y=false:=by rw [<-qch,Nat.beq_eq];exact hj
   simp [zmQ,this]
 have O:=sz y w w' hR;refine ⟨?_,?_,⟨by simp [g4.size],?_⟩,zn6 ht,bs y w w' hB hR,qal gi O,λt hm=>?_,?_,?_,?_⟩
 . exact gh.sublist (qbT (qb3 y _) c1)
 . intro j;by_cases C:y=j
   . subst C
     have gc:y∉c1++c2:=by
       intro hm;rcases qae.1 hm with hm | hm
       . exact M.2.2 y hm y ss rfl
       exact (qaR.1 M.2.1).1 hm
     simp only [gc,false_iff];simp [g1]
   rw [getD_set_ne true C,<-hc j];simp only [qae,qaa];constructor
   . rintro (h | h)
     . exact .inl h
     exact .inr (.inr h)
   rintro (h | h | h)
   . exact .inl h
   . exact absurd h.symm C
   exact .inr h
 . intro j o ho hj e he hb;by_cases C:y=j
   . subst C;rw [g9] at ho;cases ho;exact getD_set_true (g3 e he hb)
   rw [getD_set_ne false C] at hj;exact getD_set_true (g4.down j o ho hj e he hb)
 . cases hdy:oy.dst with
   | none=>exact g0 t hm
   | some dy=>
     show upd s dy v t=s0 t;rw [zcG _ _ (λe=>?_)]
     . exact g0 t hm
     subst e;have:=p4 _ (qb6.2 ⟨oy,List.mem_of_getElem? g2,hdy⟩);rw [this] at hm;cases hm
 . intro j hj;by_cases C:j=y
   . rw [C,gb];exact ⟨gi,O,qaE _⟩
   rw [U j C];obtain ⟨h1,h2,h3⟩:=g5 j (D j (λe=>C e.symm) hj);exact ⟨h1,h2,qal h3 O⟩
 . intro i j hi hj gj;by_cases hiy:i=y
   . have C:¬j=y:=λe=>gj (hiy.trans e.symm);rw [hiy,gb,U j C];exact .inr (g5 j (D j (λe=>C e.symm) hj)).2.2
   by_cases C:j=y
   . rw [C,gb,U i hiy];exact .inl (g5 i (D i (λe=>hiy e.symm) hi)).2.2
   rw [U i hiy,U j C];exact gp i j (D i (λe=>hiy e.symm) hi) (D j (λe=>C e.symm) hj) gj
 intro j hj;by_cases C:j=y
 . rw [C];exact gr
 have gd:=D j (λe=>C e.symm) hj;refine st j y s _ T _ w w' C hB hR (λq hq=>?_) (hQ j gd);obtain ⟨⟨_,gs,gt⟩,o,ho,h1⟩:=zsx hq;have gx:ops[j]?=some o:=by simpa using ho
 have gf:listed.getD q.1 false=true:=by
   rcases h1 with h1 | ⟨e,he,hb,h1⟩
   . rw [qba] at h1;rw [h1];exact gd
   have:=g4.down j o gx gd e (by simpa using he) hb;rw [h1] at this;exact this
 have gl:q.1≠y:=λe=>by
   rw [e] at gf;simp [g1] at gf gg;rw [gf] at gg;cases gg
 refine ⟨?_,U q.1 gl⟩;cases hdy:oy.dst with
 | none=>rfl
 | some dy=>
   show upd s dy v q.2=s q.2;exact zcG _ _ λe=>gl (zsv gn gs g2 gt (e▸hdy))
end
section
variable {P:pG} {ext:Xt} {N n:Nat} (hE:∀ f,f<N->ext.l.elem f=false->zeO P f=true)
include hE
theorem zua {ops:Array Oper} {m:Nat} {K:Env->wD->Prop} {QQ:Exit->Act->wD->Prop} (gh:zrq ext.l N n ops.toList=true) (hp:zm8 ops m=true)
   {a0:Act} {w0:wD} {B:wD->Prop} {R:Nat->wD->wD->Prop} {Q:ParQ} (bs:∀ j w1 w2,B w1->R j w1 w2->B w2) (sz:∀ j w1 w2,R j w1 w2->w1.heap.size<=w2.heap.size)
   (st:∀ i j u u' T T' w1 w2,i≠j->B w1->R j w1 w2->(∀ q∈zrl (zn4 ops.toList 0 ops.toList) i,u' q.2=u q.2/\T' q.1=T q.1)->Q i u T w1->Q i u' T' w2) (hs:zf0 P ext m (zbF a0) w0 B R Q 0 ops.toList)
   (hf:∀ (u:Env) (T:Nat->Nat×Nat) (w1:wD),B w1->w0.heap.size<=w1.heap.size->zn3 (List.range ops.toList.length) w0.heap.size w1.heap.size T->zkc Q u T w1 0 ops.toList.length->K (mix m (zbF a0) u) w1)
   (hq:∀ a' w',Kept n (zk4 ops.toList) a0 a'->K (zbF a') w'->QQ .normal a' w') :
   ∀ (k:Nat) (c:List Nat) (listed:Array Bool) (a:Act) (w:wD) (T:Nat->Nat×Nat),c.length=k->GInv ops m B Q (zbF a0) w0 c listed (zbF a) T w->a.tmps.size=n->Kept n (zk4 ops.toList) a0 a ->
     wpAny P .any ops QQ k listed a w:=by
 have g9:=hp;simp only [zm8,qap,qaH] at g9;obtain ⟨⟨⟨_,p3⟩,_⟩,_⟩:=g9;intro k
 induction k with
 | zero=>
   intro c listed a w T hl h hn hk;have g3:c=[]:=qaj hl;subst g3
   have C:∀ j,j<ops.size->listed.getD j false=true:=λj hj=>by
     have h2:¬listed.getD j true=false:=λe=>by simpa using (h.mem j).2 e
     have h3:j<listed.size:=by rw [h.closed.size];omega
     simp [h3] at h2 ⊢;exact h2
   have hv:=hf (zbF a) T w h.base h.sz ⟨λi hi=>h.t1 i (C i (by simpa using hi)),λi hi j hj gd=>h.t2 i j (C i (by simpa using hi)) (C j (by simpa using hj)) gd⟩
     (zk6 λi hi=>by rw [qba];exact h.q i (C i (by simpa using hi)))
   rw [zhz h.env] at hv;refine ⟨?_,hq a w hk hv⟩;rw [qcx];intro j hj;exact absurd ((h.mem j).2 (mem_ready.1 hj).1) ss
 | succ k ih=>
   intro c listed a w T hl h hn hk;refine ⟨λg0=>?_,λy hy=>?_⟩
   . cases c with
     | nil=>simp at hl
     | cons i r=>
       obtain ⟨⟨o,ho,hd⟩,_⟩:=h.top;have:i∈Region.ready .any ops listed:=mem_ready.2 ⟨(h.mem i).1 ss,o,ho,hd⟩;rw [g0] at this;cases this
   obtain ⟨gb,oy,g2,D⟩:=mem_ready.1 hy;have gf:y∈c:=(h.mem y).2 gb;have g4:ops.toList[y]?=some oy:=by simpa using g2
   obtain ⟨c1,c2,rfl⟩:=qcl gf;have g5:nth ops.toList y=some oy:=by rw [zdF];exact g2
   have gg:oy.guard=none:=by
     have:=p3 oy (List.mem_of_getElem? g4);simpa using this
   have g1:=h.ready hs g2 D
   have h':zfZ P ext ops.toList 0 y (zbF a) w (λs' w'=>∃ v,s'=put (zbF a) oy.dst v/\R y w w'/\Q y (put (zbF a) oy.dst v) (zmQ T y (w.heap.size,w'.heap.size)) w'):=by
     rw [zdS g5];refine ⟨true,by unfold gOk;rw [gg],?_⟩;simp only [if_true];unfold opF;have:zbu 0 y=false:=by rw [zf1];simp
     rw [this];exact ziD (λv w' hh=>⟨v,rfl,hh.1,hh.2⟩) g1
   refine zgx hE gh hn h' λa' w' gc ⟨v,hv,hR,gi⟩=>ih (c1++c2) (listed.setIfInBounds y true) a' w' (zmQ T y (w.heap.size,w'.heap.size)) (by simp at hl ⊢;omega) ?_ gc.size (hk.trans gc (λ_ h=>h) (λ_ h=>h));rw [hv];exact h.step hp bs sz st gb g2 D hR gi
end
def wrs:Code->List Nat
 | .region _ ops _=>zk4 ops.toList
 | .seq a b=>wrs a++wrs b
 | .cond _ a b=>wrs a++wrs b
 | .block _ c=>wrs c
 | .loop c=>wrs c
 | _=>[]
def okC (g:Cfg) (N n:Nat):Code->Bool
 | .skip=>true
 | .region id ops d=>zrq g.ext N n ops.toList&&(bif d then (match find g.gpars id with | some m=>zm8 ops m | none=>match find g.pars id with | some (m,p)=>zn7 ops m p | none=>match find g.draws id with | some (l,fl)=>zAb ops l fl | none=>true) else true)
 | .seq a b=>okC g N n a&&okC g N n b&&(match (zaG b).bind (find g.joins) with | some (m,_)=>(wrs a).all λt=>zbu m t | none=>true)
 | .cond _ a b=>okC g N n a&&okC g N n b
 | .block _ c=>okC g N n c
 | .loop c=>okC g N n c&&(match (zaG c).bind (find g.loops) with | some (m,_)=>(wrs c).all λt=>zbu m t | none=>true)
 | .exit _=>true
 | .ret=>true
 | _=>true
theorem zsy {s:Env} {c:Operand} {b:Bool} (h:ev s c=.bool b):lit s c b=s:=by
 cases c with
 | tmp t=>exact zgw h
 | _=>rfl
def zoa {Q:Exit->Act->wD->Prop} {c:Code} (I:Nat->Act->wD->Prop) (m:Nat) {a:Act} {w:wD} (h₀:I m a w)
   (g0:∀ m a w,I m a w->c.wp P (Exit.then (λa' w'=>∃ m',m'<m/\I m' a' w') Q) a w):(Code.loop c).wp P Q a w:=by
 intro b k cs
 have g1:∀ n a w,I n a w->∃ e a' w',Q e a' w'/\Arrives P (lone (b.at a (.code c :: .inLoop c :: k)) cs w) b k cs e a' w':=by
   intro n
   induction n using Nat.strongRecOn with
   | _ n ih=>
     intro a w hI;obtain ⟨e,a₁,w₁,hq,C⟩:=g0 n a w hI b (.inLoop c :: k) cs;cases e with
     | normal=>
       obtain ⟨m',g2,hI₁⟩:=hq;obtain ⟨e₂,a₂,w₂,hq₂,harr₂⟩:=ih m' g2 a₁ w₁ hI₁;exact ⟨e₂,a₂,w₂,hq₂,.of_steps (Steps.trans C (.one step_inLoop)) harr₂⟩
     | exit id=>exact ⟨_,a₁,w₁,hq,.pass (x:=.inLoop c) rfl (λ_ _=>.inl ss) C⟩
     | goto l=>exact ⟨_,a₁,w₁,hq,.pass (x:=.inLoop c) rfl (λ_ _=>.inl ss) C⟩
     | ret=>exact ⟨_,a₁,w₁,hq,.pass (x:=.inLoop c) rfl (λ_ _=>.inl ss) C⟩
     | panic ch=>exact ⟨_,a₁,w₁,hq,.pass (x:=.inLoop c) rfl (λ_ _=>.inl ss) C⟩
     | outgrown=>exact ⟨_,a₁,w₁,hq,.pass (x:=.inLoop c) rfl (λ_ _=>.inl ss) C⟩
 obtain ⟨e,a',w',hq,C⟩:=g1 m a w h₀;exact ⟨e,a',w',hq,.of_steps (.one step_loop) C⟩
section
variable {P:pG} {g:Cfg} {N n:Nat} (hE:∀ f,f<N->g.ext.elem f=false->zeO P f=true) (hm:P.follows .mixedOrders=true)
include hE hm
theorem zyL:∀ (c:Code),okC g N n c=true->∀ (a:Act) (w:wD) (K:Exit->Env->wD->Prop),a.tmps.size=n->vc P g c (zbF a) w K ->
   c.wp P (λe a' w'=>K e (zbF a') w'/\Kept n (wrs c) a a') a w:=by
 intro c
 induction c with
 | skip=>intro _ a w K hn h;exact wp_skip ⟨h,.refl _ hn⟩
 | ret=>intro _ a w K hn h;exact wp_ret ⟨h,.refl _ hn⟩
 | exit id=>intro _ a w K hn h;exact wp_exit ⟨h,.refl _ hn⟩
 | region id ops d=>
   intro C a w K hn h;simp only [okC,qap] at C;cases d with
   | false=>exact wp_region (zrr hE C.1 _ a w hn h λa' w' hk hh=>⟨hh,hk⟩)
   | true=>
     simp only [vc] at h;cases hgd:find g.gpars id with
     | some mm=>
      simp only [hgd] at h;have ho:=C.2;simp only [hgd,cond_true] at ho;obtain ⟨_,_,Q,hb,bs,sz,st,h1,h2⟩:=h;have V:=ho;simp only [zm8,qap,qaH] at V;have O:=V.2;have g0:=zua (Q:=Q) (QQ:=λe a' w'=>K e (zbF a') w'/\Kept n (zk4 ops.toList) a a') hE C.1 ho bs sz st h1 h2 (λa' w' hk hh=>⟨hh,hk⟩) ops.size (List.range ops.size) (Array.replicate ops.size false) a _ (λ_=>(0,0)) ss ⟨?_,?_,⟨ss,?_⟩,?_,hb,lr _,λ_ _=>rfl,?_,?_,?_⟩ hn (.refl _ hn)
      . exact wp_region_any hm g0
      . exact qcX
      . intro j;rw [qaL];by_cases hj:j<ops.size<;>simp [hj]
      . intro j o _ hj;by_cases hj':j<ops.size<;>simp [hj'] at hj
      . exact ziG (seen:=[]) ss (λi hi=>by simp at hi ⊢;omega) O
      . intro j hj;by_cases hj':j<ops.size<;>simp [hj'] at hj
      . intro i _ hj _ _;by_cases hj':i<ops.size<;>simp [hj'] at hj
      intro j hj;by_cases hj':j<ops.size<;>simp [hj'] at hj
     | none=>
     simp only [hgd] at h;cases hpd:find g.pars id with
     | some x=>
      obtain ⟨mm,p⟩:=x;simp only [hpd] at h;have ho:=C.2;simp only [hgd,hpd,cond_true] at ho;obtain ⟨Q,st,h1,h2⟩:=h;have V:=ho;simp only [zn7,qap,qaH] at V;have hpn:p<=ops.size:=qbv V.1.1.1.1.1.1;have O:=V.1.2;have D:(List.range ops.size).take p++(List.range ops.size).drop p=List.range ops.size:=qca _ _;have U:p+((List.range ops.size).drop p).length=ops.size:=by simp;omega
      have g0:=zvv (Q:=Q) (QQ:=λe a' w'=>K e (zbF a') w'/\Kept n (zk4 ops.toList) a a') hE C.1 ho st h1 h2 (λa' w' hk hh=>⟨hh,hk⟩) p ((List.range ops.size).take p) (Array.replicate ops.size false) a _ (λ_=>(0,0)) so ⟨?_,?_,?_,?_,⟨ss,?_⟩,?_,xrf _,λ_ _=>rfl,?_,?_,?_⟩ hn (.refl _ hn)
      . rw [U] at g0;exact wp_region_any hm g0
      . rw [D];exact qcX
      . intro j;rw [D,qaL];by_cases hj:j<ops.size<;>simp [hj]
      . intro j hj;rw [List.mem_take_iff_getElem] at hj;obtain ⟨i,hi,he⟩:=hj;simp at he;omega
      . exact qc0 (qcw _ _) qcr
      . intro j o _ hj;by_cases hj':j<ops.size<;>simp [hj'] at hj
      . rw [D];exact ziG (seen:=[]) ss (λi hi=>by simp at hi ⊢;omega) O
      . intro j _ hj;by_cases hj':j<ops.size<;>simp [hj'] at hj
      . intro i _ _ _ hj _ _;by_cases hj':i<ops.size<;>simp [hj'] at hj
      intro j _ hj;by_cases hj':j<ops.size<;>simp [hj'] at hj
     | none=>
     simp only [hpd] at h;cases hd:find g.draws id with
     | none=>simp [hd] at h
     | some x=>
       obtain ⟨l,fl⟩:=x;simp only [hd] at h;have ho:=C.2;simp only [hgd,hpd,hd,cond_true,zAb,qap,qaH,qaL] at ho;obtain ⟨⟨⟨⟨o1,o2⟩,o3⟩,o4⟩,o5⟩:=ho;have g1:=zgy o1;have M:∀ j,j∈l↔j<ops.size:=λj=>⟨λhj=>qbv (o2 j hj),λhj=>qcO (o3 j hj)⟩
       have U:l.length=ops.size:=by
         have h1:l.Perm (List.range ops.size):=(List.perm_ext_iff_of_nodup g1 qcX).2 λj=>by rw [M,qaL]
         simpa using h1.length_eq
       obtain ⟨xt,g2,h⟩:∃ xt:Xt,xt.l=g.ext/\zeU P xt ops.toList fl (K .normal) l (zbF a) (World.drew1 w):=by
         cases hxs:g.xs.elem id
         . rw [hxs] at h;exact ⟨_,rfl,h⟩
         rw [hxs] at h;obtain ⟨_,h⟩:=h;exact ⟨_,rfl,h⟩
       refine wp_region_any hm (zjx (ext:=xt) (by rw [g2];exact hE) (by rw [g2];exact C.1) ops.size l _ a _ U g1 ?_ ⟨ss,?_⟩ ?_ o5 hn h λa' w' hk hh=>⟨hh,hk⟩)
       . intro j;rw [M];by_cases hj:j<ops.size<;>simp [hj]
       . intro j o _ hj;by_cases hj':j<ops.size<;>simp [hj'] at hj
       exact ziG (seen:=[]) ss (λi hi=>by simpa using (M i).1 hi) o4
 | seq x y ihx ihy=>
   intro C a w K hn h;simp only [okC,qap] at C;obtain ⟨⟨hx,hy⟩,hj⟩:=C;refine wp_seq ?_
   have fin:∀ (e:Exit) (a1 a2:Act) (w2:wD),Kept n (wrs x) a a1->K e (zbF a2) w2/\Kept n (wrs y) a1 a2->K e (zbF a2) w2/\Kept n (wrs (.seq x y)) a a2:=
     λe a1 a2 w2 k1 ⟨h2,k2⟩=>⟨h2,k1.trans k2 (λt ht=>qa1 _ ht) (λt ht=>qbw _ ht)⟩
   have out:∀ (e:Exit) (a1:Act) (w1:wD),K e (zbF a1) w1->Kept n (wrs x) a a1->K e (zbF a1) w1/\Kept n (wrs (.seq x y)) a a1:=
     λe a1 w1 h1 k1=>⟨h1,k1.trans (.refl [] k1.size) (λt ht=>qa1 _ ht) ss⟩
   simp only [vc] at h;cases hjn:(zaG y).bind (find g.joins) with
   | none=>
     simp only [hjn] at h;refine wp_mono (ihx hx a w _ hn h) λe a1 w1 ⟨h1,k1⟩=>?_;cases e with
     | normal=>exact wp_mono (ihy hy a1 w1 K k1.size h1) λe a2 w2 h2=>fin e a1 a2 w2 k1 h2
     | _=>exact out _ _ _ h1 k1
   | some j=>
     obtain ⟨m,L⟩:=j;simp only [hjn] at h hj;obtain ⟨_,hb,hr⟩:=h;refine wp_mono (ihx hx a w _ hn hb) λe a1 w1 ⟨h1,k1⟩=>?_;cases e with
     | normal=>
       have h2:=hr (zbF a1) w1 h1;rw [zhz λt ht=>k1.env t λM=>by rw [qaH.1 hj t M] at ht;cases ht] at h2;exact wp_mono (ihy hy a1 w1 K k1.size h2) λe a2 w2 h2=>fin e a1 a2 w2 k1 h2
     | _=>exact out _ _ _ h1 k1
 | cond c x y ihx ihy=>
   intro C a w K hn h;simp only [okC,qap] at C;simp only [vc,zpx] at h;obtain ⟨b,hb,h⟩:=h;have g3:a.eval c=.bool b:=by rw [<-zst];exact hb
   refine wp_cond g3 ?_;cases b with
   | true=>
     simp only [if_true] at h ⊢;rw [zsy hb] at h;exact wp_mono (ihx C.1 a w K hn h) λe a' w' ⟨h1,k1⟩=>⟨h1,k1.trans (.refl [] k1.size) (λt ht=>qa1 _ ht) ss⟩
   | false=>
     simp only [qa2,if_false] at h ⊢;rw [zsy hb] at h;exact wp_mono (ihy C.2 a w K hn h) λe a' w' ⟨h1,k1⟩=>⟨h1,k1.trans (.refl [] k1.size) (λt ht=>qbw _ ht) ss⟩
 | block id c ih=>
   intro C a w K hn h;refine wp_block (wp_mono (ih C a w _ hn h) λe a' w' ⟨h1,k1⟩=>?_);cases e with
   | exit j=>
     simp only [Exit.inBlock,zk3] at h1 ⊢;by_cases hji:j=id
     . subst hji;simp only [Nat.beq_refl,cond_true] at h1;simp only [if_true];exact ⟨h1,k1⟩
     have:Nat.beq j id=false:=by rw [Bool.eq_false_iff];exact λe=>hji (qb9 e)
     rw [this] at h1;simp only [hji,if_false];exact ⟨h1,k1⟩
   | _=>exact ⟨h1,k1⟩
 | loop c ih=>
   intro C a w K hn h;simp only [okC,qap] at C;simp only [vc] at h;cases hl:(zaG c).bind (find g.loops) with
   | none=>simp [hl] at h
   | some x=>
     obtain ⟨m,L⟩:=x;simp only [hl] at h;have hj:=C.2;simp only [hl] at hj;obtain ⟨I,m0,h0,hr⟩:=h;refine zoa (λm a' w'=>I m (L.map (zbF a')) w'/\Kept n (wrs c) a a') m0 ⟨h0,.refl _ hn⟩ ?_;intro m1 a1 w1 ⟨h1,k1⟩;have h2:=hr m1 (zbF a1) w1 h1;rw [zhz λt ht=>k1.env t λM=>by rw [qaH.1 hj t M] at ht;cases ht] at h2;refine wp_mono (ih C.1 a1 w1 _ k1.size h2) λe a2 w2 ⟨h3,k2⟩=>?_;cases e with
     | normal=>
       obtain ⟨m',g4,h4⟩:=h3;exact ⟨m',g4,h4,k1.trans k2 (λ_ h=>h) (λ_ h=>h)⟩
     | _=>exact ⟨h3,k1.trans k2 (λ_ h=>h) (λ_ h=>h)⟩
 | _=>intro _ a w K hn h;exact (show False from h).elim
end
def zsz (tmps:Array vL):ResultVar->Sem vL
 | .tmp t=>pure (tmps.getD t undef)
 | .cell a t=>do loadVar t (<-asAddr (tmps.getD a undef))
theorem zob {P:pG} {a:Act} {w:wD}:∀ (rs:List ResultVar) (k:List vL->Prop),zrm P (zbF a) w rs k ->
   ∃ vs,(rs.mapM (zsz a.tmps)).run P w=.ok vs w/\k vs
 | [],k,h=>⟨[],ss,h⟩
 | .tmp t :: r,k,h=>by
   obtain ⟨vs,hr,hk⟩:=zob r _ h;exact ⟨_,by simp only [qc9,zsz,Sem.run_bind,Sem.run_pure,Result.andThen_ok,hr];rfl,hk⟩
 | .cell ad t :: r,k,h=>by
   obtain ⟨v,hv,h⟩:=h;obtain ⟨vs,hr,hk⟩:=zob r _ h;have hv':=hv w (xrf w);unfold zbr zbF at hv';exact ⟨_,by simp only [qc9];rw [Sem.run_bind,show (zsz a.tmps (.cell ad t)).run P w=_ from hv'];simp only [Result.andThen_ok,Sem.run_bind,hr,Sem.run_pure],hk⟩
theorem zk7 {fn:Func} {a:Act} {R:vL->wD->Prop} (h:zrm P (zbF a) w fn.results.toList λvs=>R (one vs) w) :
   ∃ v,(results fn a.tmps).run P w=.ok v w/\R v w:=by
 obtain ⟨vs,hr,hk⟩:=zob _ _ h;refine ⟨one vs,?_,hk⟩
 have he:results fn a.tmps=(do let vs <-fn.results.mapM (zsz a.tmps);pure (if h:vs.size=1 then vs[0] else .tuple vs)):=by
   unfold results;congr 1
 rw [he,qcK];simp only [Sem.run_bind,map_eq_pure_bind,hr,Result.andThen_ok,Sem.run_pure]
 match vs with
 | []=>rfl
 | [v]=>rfl
 | _ :: _ :: _=>rfl
def okF (g:Cfg) (N:Nat) (fn:Func):Bool:=match fn.body with | some c=>okC g N fn.ntmps c | none=>false
theorem zBF {g:Cfg} (hE:∀ f,f<N->g.ext.elem f=false->zeO P f=true) (hm:P.follows .mixedOrders=true)
   {f:FuncId} {fn:Func} {args:List vL} {w:wD} {R:vL->wD->Prop} (hf:P.funcs[f]?=some fn) (hl:args.length<=fn.ntmps) (g0:okF g N fn=true)
   (h:vcF P g fn args w R):CALL P f args w R:=by
 unfold vcF at h;unfold okF at g0;cases hb:fn.body with
 | none=>simp [hb] at h
 | some c=>
   simp only [hb] at h g0;refine ⟨calls_of_wp hf hb ?_⟩
   have g1:zbF { tmps:=args.toArray++Array.replicate (fn.ntmps-args.toArray.size) undef,defers:=[] }=zBy args:=by
     funext t;unfold zbF zBy;rw [zh3];simp only [Array.getD_eq_getD_getElem?,qcP];rcases qaw t args.length with ht | ht
     . rw [Array.getElem?_append_left (by simpa using ht)];simp [ht]
     rw [Array.getElem?_append_right (by simpa using ht)];simp only [List.getElem?_eq_none ht,Array.getElem?_replicate];split<;>rfl
   rw [<-g1] at h;refine wp_mono (zyL hE hm c g0 _ w _ so h) λe a' _ ⟨h1,k1⟩=>?_;have hd:a'.defers=[]:=k1.defers;cases e with
   | normal=>
     obtain ⟨v,hv,hR⟩:=zk7 h1;exact ⟨hd,v,hv,v,rfl,hR⟩
   | ret=>
     obtain ⟨v,hv,hR⟩:=zk7 h1;exact ⟨hd,v,hv,v,rfl,hR⟩
   | _=>exact (show False from h1).elim
end Go.Sh
namespace Go.Sh
open Go.RowKit (Below)
def I64 (x:Int):Prop:=-9223372036854775808<=x/\x<=9223372036854775807
theorem io {p:Prop} (h:p:=by unfold I64;omega):p:=h
def zak:maxLen=9223372036854775807:=rfl
class Rep (α:Type) where
 size:Nat
 agg:Bool
 rep:List Nat->wD->List vL->α->Prop
 pos:0<size
 sz:agg=false->size=1
 len:∀ {F w cs x},rep F w cs x->cs.length=size
 one:∀ {F w cs x},rep F w cs x->∀ v∈cs,v.oneCell'=true
 keep:∀ {F w w' cs x},rep F w cs x->(∀ b∈F,w'.heap[b]?=w.heap[b]?)->rep F w' cs x
 lt:∀ {F w cs x},rep F w cs x->∀ b∈F,b<w.heap.size
open Rep (rep)
def mkv (α:Type) [Rep α] (cs:List vL):vL:=bif Rep.agg α then .agg cs.toArray else cs.headD undef
section
variable {α β:Type} [Rep α] [Rep β]
def Is (w:wD) (v:vL) (x:α):Prop:=∃ F cs,rep F w cs x/\v=mkv α cs
def At (w:wD) (b o:Nat) (x:α):Prop:=∃ F cs,rep F w cs x/\w.rangeAt b o cs
def OwnF (F:List Nat) (w:wD) (v:vL) (x:α):Prop:=∃ cs,rep F w cs x/\v=mkv α cs
def Wr (F:List Nat) (w:wD):Prop:=∀ b∈F,∃ c e,w.heap[b]?=some (.cells c e (0,0))
structure Mine (F:List Nat) (w:wD) (v:vL) (x:α):Prop where
 own:OwnF F w v x
 nodup:F.Nodup
 wr:Wr F w
def Own (lo:Nat) (w:wD) (v:vL) (x:α):Prop:=∃ F,Mine F w v x/\∀ b∈F,lo<=b
def Ext.heap {w w':wD} (h:Ext w w') {b:Nat} (hb:b<w.heap.size):w'.heap[b]?=w.heap[b]?:=h.block b hb
def zb7 {F:List Nat} {w w':wD} {cs:List vL} {x:α} (h:rep F w cs x) (hx:Ext w w'):rep F w' cs x:=
 Rep.keep h λb hb=>hx.heap (Rep.lt h b hb)
def zea {w:wD} {b o:Nat} {cs:List vL} (h:w.rangeAt b o cs) (hc:0<cs.length):b<w.heap.size:=by
 have:=h 0 cs[0] (by simp [hc]);exact World.block_lt_of_cell? w _ this
def zbx {w w':wD} {b o:Nat} {cs:List vL} (h:w.rangeAt b o cs) (hb:w'.heap[b]?=w.heap[b]?):w'.rangeAt b o cs:=
 λj v hv=>by rw [World.cell?_of_block (w:=w) hb];exact h j v hv
def zbw {w w':wD} {b o:Nat} {cs:List vL} (h:w.rangeAt b o cs) (hx:Ext w w'):w'.rangeAt b o cs:=by
 intro j v hv;have hb:=World.block_lt_of_cell? w _ (h j v hv);rw [World.cell?_of_block (w:=w) (hx.heap hb)];exact h j v hv
def Is.ext {w w':wD} {v:vL} {x:α} (h:Is w v x) (hx:Ext w w'):Is w' v x:=by
 obtain ⟨F,cs,hr,hv⟩:=h;exact ⟨F,cs,zb7 hr hx,hv⟩
def At.ext {w w':wD} {b o:Nat} {x:α} (h:At w b o x) (hx:Ext w w'):At w' b o x:=by
 obtain ⟨F,cs,hr,hv⟩:=h;exact ⟨F,cs,zb7 hr hx,zbw hv hx⟩
def OwnF.ext {F:List Nat} {w w':wD} {v:vL} {x:α} (h:OwnF F w v x) (hx:Ext w w'):OwnF F w' v x:=by
 obtain ⟨cs,hr,hv⟩:=h;exact ⟨cs,zb7 hr hx,hv⟩
def OwnF.keep {F:List Nat} {w w':wD} {v:vL} {x:α} (h:OwnF F w v x) (hx:∀ b∈F,w'.heap[b]?=w.heap[b]?):OwnF F w' v x:=by
 obtain ⟨cs,hr,hv⟩:=h;exact ⟨cs,Rep.keep hr hx,hv⟩
def OwnF.is {F:List Nat} {w:wD} {v:vL} {x:α} (h:OwnF F w v x):Is w v x:=by
 obtain ⟨cs,hr,hv⟩:=h;exact ⟨F,cs,hr,hv⟩
def OwnF.lt {F:List Nat} {w:wD} {v:vL} {x:α} (h:OwnF F w v x):∀ b∈F,b<w.heap.size:=by
 obtain ⟨_,hr,_⟩:=h;exact Rep.lt hr
def Wr.keep {F:List Nat} {w w':wD} (h:Wr F w) (hk:∀ b∈F,w'.heap[b]?=w.heap[b]?):Wr F w':=λb hb=>by
 obtain ⟨c,e,he⟩:=h b hb;exact ⟨c,e,by rw [hk b hb];exact he⟩
def Wr.lt {F:List Nat} {w:wD} (h:Wr F w):∀ b∈F,b<w.heap.size:=λb hb=>by
 obtain ⟨c,e,he⟩:=h b hb;exact (Array.getElem?_eq_some_iff.1 he).1
def Wr.ext {F:List Nat} {w w':wD} (h:Wr F w) (hx:Ext w w'):Wr F w':=h.keep λb hb=>hx.heap (h.lt b hb)
def Wr.nil (w:wD):Wr [] w:=λb hb=>by cases hb
def Wr.append {F G:List Nat} {w:wD} (h:Wr F w) (k:Wr G w):Wr (F++G) w:=λb hb=>by
 rcases qae.1 hb with hb | hb
 . exact h b hb
 exact k b hb
def Wr.sub {F G:List Nat} {w:wD} (h:Wr F w) (hs:∀ b∈G,b∈F):Wr G w:=λb hb=>h b (hs b hb)
def Mine.keep {F:List Nat} {w w':wD} {v:vL} {x:α} (h:Mine F w v x) (hk:∀ b∈F,w'.heap[b]?=w.heap[b]?):Mine F w' v x:=⟨h.own.keep hk,h.nodup,h.wr.keep hk⟩
def Mine.ext {F:List Nat} {w w':wD} {v:vL} {x:α} (h:Mine F w v x) (hx:Ext w w'):Mine F w' v x:=⟨h.own.ext hx,h.nodup,h.wr.ext hx⟩
def Mine.is {F:List Nat} {w:wD} {v:vL} {x:α} (h:Mine F w v x):Is w v x:=h.own.is
def Mine.lt {F:List Nat} {w:wD} {v:vL} {x:α} (h:Mine F w v x):∀ b∈F,b<w.heap.size:=h.own.lt
def Own.ext {lo:Nat} {w w':wD} {v:vL} {x:α} (h:Own lo w v x) (hx:Ext w w'):Own lo w' v x:=by
 obtain ⟨F,hm,hl⟩:=h;exact ⟨F,hm.ext hx,hl⟩
def Own.is {lo:Nat} {w:wD} {v:vL} {x:α} (h:Own lo w v x):Is w v x:=by
 obtain ⟨_,hm,_⟩:=h;exact hm.is
def Own.mono {lo g0:Nat} {w:wD} {v:vL} {x:α} (h:Own lo w v x) (hl:g0<=lo):Own g0 w v x:=by
 obtain ⟨F,hm,hb⟩:=h;exact ⟨F,hm,λb g1=>qal hl (hb b g1)⟩
end
instance:Rep Int where
 size:=1
 agg:=false
 rep F _ cs x:=F=[]/\cs=[.int .i64 x]/\I64 x
 pos:=by decide
 sz _:=rfl
 len:=by rintro _ _ _ _ ⟨_,rfl,_⟩;rfl
 one:=by rintro _ _ _ _ ⟨_,rfl,_⟩ v hv;simp at hv;subst hv;rfl
 keep:=by rintro _ _ _ _ _ h _;exact h
 lt:=by rintro _ _ _ _ ⟨rfl,_⟩ b hb;cases hb
instance:Rep Bool where
 size:=1
 agg:=false
 rep F _ cs x:=F=[]/\cs=[.bool x]
 pos:=by decide
 sz _:=rfl
 len:=by rintro _ _ _ _ ⟨_,rfl⟩;rfl
 one:=by rintro _ _ _ _ ⟨_,rfl⟩ v hv;simp at hv;subst hv;rfl
 keep:=by rintro _ _ _ _ _ h _;exact h
 lt:=by rintro _ _ _ _ ⟨rfl,_⟩ b hb;cases hb
instance:Rep ByteArray where
 size:=1
 agg:=false
 rep F _ cs x:=F=[]/\cs=[.string x]/\x.size<=maxLen
 pos:=by decide
 sz _:=rfl
 len:=by rintro _ _ _ _ ⟨_,rfl,_⟩;rfl
 one:=by rintro _ _ _ _ ⟨_,rfl,_⟩ v hv;simp at hv;subst hv;rfl
 keep:=by rintro _ _ _ _ _ h _;exact h
 lt:=by rintro _ _ _ _ ⟨rfl,_⟩ b hb;cases hb
instance {α β:Type} [Rep α] [Rep β]:Rep (α×β) where
 size:=Rep.size α+Rep.size β
 agg:=true
 rep F w cs x:=∃ F1 F2 c1 c2,F=F1++F2/\cs=c1++c2/\rep F1 w c1 x.1/\rep F2 w c2 x.2
 pos:=by have:=Rep.pos (α:=α);omega
 sz h:=by cases h
 len:=by rintro _ _ _ _ ⟨F1,F2,c1,c2,rfl,rfl,h1,h2⟩;rw [qab,Rep.len h1,Rep.len h2]
 one:=by
   rintro _ _ _ _ ⟨F1,F2,c1,c2,rfl,rfl,h1,h2⟩ v hv;rcases qae.1 hv with hv | hv
   · exact Rep.one h1 v hv
   exact Rep.one h2 v hv
 keep:=by
   rintro _ _ _ _ _ ⟨F1,F2,c1,c2,rfl,rfl,h1,h2⟩ hk;exact ⟨F1,F2,c1,c2,rfl,rfl,Rep.keep h1 λb hb=>hk b (by simp [hb]),Rep.keep h2 λb hb=>hk b (by simp [hb])⟩
 lt:=by
   rintro _ _ _ _ ⟨F1,F2,c1,c2,rfl,rfl,h1,h2⟩ b hb;rcases qae.1 hb with hb | hb
   · exact Rep.lt h1 b hb
   exact Rep.lt h2 b hb
@[reducible] def Rep.via {α β:Type} [Rep β] (f:α->β):Rep α where
 size:=Rep.size β
 agg:=true
 rep F w cs x:=rep F w cs (f x)
 pos:=Rep.pos
 sz h:=by cases h
 len h:=Rep.len h
 one h:=Rep.one h
 keep h:=Rep.keep h
 lt h:=Rep.lt h
def Cells {α:Type} [Rep α]:List Nat->wD->List vL->List α->Prop
 | F,_,xs,[]=>F=[]/\xs=[]
 | F,w,xs,y :: ys=>∃ F1 F2 c1 c2,F=F1++F2/\xs=c1++c2/\rep F1 w c1 y/\Cells F2 w c2 ys
section
variable {α:Type} [Rep α]
theorem Cells.len {w:wD}:∀ {l:List α} {F:List Nat} {xs:List vL},Cells F w xs l->xs.length=l.length*Rep.size α
 | [],_,_,⟨_,h⟩=>by simp [h]
 | y :: ys,_,_,⟨F1,F2,c1,c2,_,h,h1,h2⟩=>by rw [h,qab,Rep.len h1,Cells.len h2,qam,qbu];omega
theorem Cells.one {w:wD}:∀ {l:List α} {F:List Nat} {xs:List vL},Cells F w xs l->∀ v∈xs,v.oneCell'=true
 | [],_,_,⟨_,h⟩,v,hv=>by rw [h] at hv;cases hv
 | y :: ys,_,_,⟨F1,F2,c1,c2,_,h,h1,h2⟩,v,hv=>by
   rw [h] at hv;rcases qae.1 hv with hv | hv
   . exact Rep.one h1 v hv
   exact Cells.one h2 v hv
theorem Cells.keep {w w':wD}:∀ {l:List α} {F:List Nat} {xs:List vL},Cells F w xs l->(∀ b∈F,w'.heap[b]?=w.heap[b]?)->Cells F w' xs l
 | [],_,_,h,_=>h
 | y :: ys,_,_,⟨F1,F2,c1,c2,hF,h,h1,h2⟩,hk=>
   ⟨F1,F2,c1,c2,hF,h,Rep.keep h1 λb hb=>hk b (by rw [hF];simp [hb]),Cells.keep h2 λb hb=>hk b (by rw [hF];simp [hb])⟩
theorem Cells.lt {w:wD}:∀ {l:List α} {F:List Nat} {xs:List vL},Cells F w xs l->∀ b∈F,b<w.heap.size
 | [],_,_,⟨h,_⟩,b,hb=>by rw [h] at hb;cases hb
 | y :: ys,_,_,⟨F1,F2,c1,c2,hF,h,h1,h2⟩,b,hb=>by
   rw [hF] at hb;rcases qae.1 hb with hb | hb
   . exact Rep.lt h1 b hb
   exact Cells.lt h2 b hb
theorem Cells.append {w:wD}:∀ {l m:List α} {F G:List Nat} {xs ys:List vL},Cells F w xs l->Cells G w ys m->Cells (F++G) w (xs++ys) (l++m)
 | [],_,_,_,_,_,⟨hF,hx⟩,k=>by subst hF hx;exact k
 | y :: l,_,_,_,_,_,⟨F1,F2,c1,c2,hF,hx,h1,h2⟩,k=>by
   subst hF hx;exact ⟨F1,F2++_,c1,c2++_,ss,ss,h1,Cells.append h2 k⟩
theorem Cells.split {w:wD}:∀ {l m:List α} {F:List Nat} {xs:List vL},Cells F w xs (l++m)->∃ F1 F2 x1 x2,F=F1++F2/\xs=x1++x2/\Cells F1 w x1 l/\Cells F2 w x2 m
 | [],_,F,xs,h=>⟨[],F,[],xs,rfl,rfl,⟨rfl,rfl⟩,h⟩
 | y :: l,m,_,_,⟨F1,F2,c1,c2,hF,hx,h1,h2⟩=>by
   obtain ⟨G1,G2,x1,x2,rfl,rfl,k1,k2⟩:=Cells.split h2;exact ⟨F1++G1,G2,c1++x1,x2,by simp [hF],by simp [hx],⟨F1,G1,c1,x1,rfl,rfl,h1,k1⟩,k2⟩
def Cells.single {w:wD} {F:List Nat} {cs:List vL} {x:α} (h:rep F w cs x):Cells F w cs [x]:=⟨F,[],cs,[],ss,ss,h,rfl,rfl⟩
end
instance {α:Type} [Rep α]:Rep (List α) where
 size:=1
 agg:=false
 rep F w cs l:=∃ a cap Fi xs,cs=[.slice a l.length cap]/\l.length<=cap/\cap<=maxLen/\Cells Fi w xs l /\
   ((l=[]/\F=[])\/∃ b o,a=some ⟨b,o,none⟩/\F=b :: Fi/\w.rangeAt b o xs/\b<w.heap.size)
 pos:=by decide
 sz _:=rfl
 len:=by rintro _ _ _ _ ⟨_,_,_,_,rfl,_⟩;rfl
 one:=by rintro _ _ _ _ ⟨_,_,_,_,rfl,_⟩ v hv;simp at hv;subst hv;rfl
 keep:=by
   rintro _ _ _ _ _ ⟨a,cap,Fi,xs,hcs,h1,h2,hc,h⟩ hk;rcases h with ⟨rfl,rfl⟩ | ⟨b,o,ha,hF,hr,hb⟩
   · exact ⟨a,cap,Fi,xs,hcs,h1,h2,hc,.inl ⟨rfl,rfl⟩⟩
   subst hF;have hbb:=hk b (by simp);refine ⟨a,cap,Fi,xs,hcs,h1,h2,Cells.keep hc λc hc=>hk c (by simp [hc]),.inr ⟨b,o,ha,rfl,zbx hr hbb,?_⟩⟩;rcases qaw b (Array.size (World.heap _)) with h' | h'
   · exact h'
   rw [Array.getElem?_eq_none h'] at hbb;simp [Array.getElem?_eq_getElem hb] at hbb
 lt:=by
   rintro _ _ _ _ ⟨a,cap,Fi,xs,hcs,h1,h2,hc,h⟩ c hm;rcases h with ⟨rfl,rfl⟩ | ⟨b,o,ha,hF,hr,hb⟩
   · cases hm
   subst hF;rcases qaa.1 hm with rfl | hm
   · exact hb
   exact Cells.lt hc c hm
end Go.Sh
namespace Go.Sh
open Go.RowKit (Below)
open Rep (rep)
variable {L:List Nat} {w:wD}
def br {p:Prop} [Decidable p] {kt kf:Prop} (h1:p->kt) (h2:¬p->kf):BR (.bool (decide p)) kt kf:=by
 by_cases h:p
 . simp only [h,qbb];exact h1 h
 simp only [h,qak];exact h2 h
def zaN {b:Bool} {kt kf:Prop} (h1:b=true->kt) (h2:b=false->kf):BR (.bool b) kt kf:=by
 cases b
 . exact h2 rfl
 exact h1 rfl
def gbr {p:Prop} [Decidable p] {kt kf ks:Prop} (h1:p->kt) (h2:¬p->kf):GBR (.bool (decide p)) kt kf ks:=by
 by_cases h:p
 . simp only [h,qbb];exact h1 h
 simp only [h,qak];exact h2 h
def zub {b:Bool} {kt kf ks:Prop} (h1:b=true->kt) (h2:b=false->kf):GBR (.bool b) kt kf ks:=by
 cases b
 . exact h2 rfl
 exact h1 rfl
def zar {init:List vL} {body:Env->wD->(List vL->wD->Prop)->Prop} (n:Nat) (I:Nat->List vL->wD->Prop) (k0:Nat) (hk:k0<=n) (h0:I k0 init w)
   (hr:∀ k m u w',k+m=n->I k (L.map u) w'->body u w' (λus w''=>∃ m',m'<m/\∃ k',k'+m'=n/\I k' us w'')):LOOPI L init w body:=
 .mk (λm us w=>∃ k,k+m=n/\I k us w) (n-k0) ⟨k0,oo,h0⟩ (λm u w' ⟨k,hk,h⟩=>hr k m u w' hk h)
section
variable {P:pG} {w w0:wD} {K:vL->Prop}
def za9 {m:Sem vL} {v:vL} (h:∀ w',Ext w w'->m.run P w'=.ok v w') (k:K v):RD P m w K:=⟨v,h,k⟩
section zaK
variable {t:TypeId} {x y:Operand} {a b:Int} {kd:IntKind}
def zah (k:K (.bool (decide (a<b)))):RD P (bin .lss t x y (.int kd a) (.int kd b)) w K:=za9 (λw' _=>by simp [bin,eqGuard,binOp,Op.intCmp]) k
def zdJ (k:K (.bool (decide (a<=b)))):RD P (bin .leq t x y (.int kd a) (.int kd b)) w K:=za9 (λw' _=>by simp [bin,eqGuard,binOp,Op.intCmp]) k
def zbZ (k:K (.bool (decide (b<a)))):RD P (bin .gtr t x y (.int kd a) (.int kd b)) w K:=za9 (λw' _=>by simp [bin,eqGuard,binOp,Op.intCmp]) k
def zcH (k:K (.bool (decide (b<=a)))):RD P (bin .geq t x y (.int kd a) (.int kd b)) w K:=za9 (λw' _=>by simp [bin,eqGuard,binOp,Op.intCmp]) k
def zag (k:K (.bool (decide (a=b)))):RD P (bin .eql t x y (.int kd a) (.int kd b)) w K:=
 za9 (λw' _=>by simp [bin,eqGuard,binOp,Op.intCmp];rfl) k
def zaJ (k:K (.bool (decide (a≠b)))):RD P (bin .neq t x y (.int kd a) (.int kd b)) w K:=
 za9 (λw' _=>by simp [bin,eqGuard,binOp,Op.intCmp];rfl) k
def zdK (h:I64 (a+b)) (k:K (.int .i64 (a+b))):RD P (bin .add t x y (.int .i64 a) (.int .i64 b)) w K:=
 za9 (λw' _=>by simp [bin,eqGuard,binOp,Op.intArith,IntWalk.i64_in _ h]) k
def zbp (h:I64 (a-b)) (k:K (.int .i64 (a-b))):RD P (bin .sub t x y (.int .i64 a) (.int .i64 b)) w K:=
 za9 (λw' _=>by simp [bin,eqGuard,binOp,Op.intArith,IntWalk.i64_in _ h]) k
def zAc (h:I64 (a*b)) (k:K (.int .i64 (a*b))):RD P (bin .mul t x y (.int .i64 a) (.int .i64 b)) w K:=
 za9 (λw' _=>by simp [bin,eqGuard,binOp,Op.intArith,IntWalk.i64_in _ h]) k
def zsA {n:Nat} (h:n<9223372036854775807) (k:K (.int .i64 ((n+1:Nat):Int))):RD P (bin .add t x y (.int .i64 (n:Int)) (.int .i64 1)) w K:=
 zdK io (by simpa using k)
def zC7 (hb:b≠0) (k:K (.int kd (a.tmod b))):RD P (bin .rem t x y (.int kd a) (.int kd b)) w K:=
 za9 (λw' _=>by simp [bin,eqGuard,binOp,Op.intDiv,hb]) k
def zhb {m n:Nat} (hm:m<4611686018427387904) (hn:n<4611686018427387904) (k:K (.int .i64 ((m ||| n:Nat):Int))):RD P (bin .or t x y (.int .i64 (m:Int)) (.int .i64 (n:Int))) w K:=by
 have:m ||| n<2^62:=qa0 hm hn;refine za9 (λw' _=>?_) k;have e1:IntKind.i64.wrap ((m ||| n:Nat):Int)=((m ||| n:Nat):Int):=IntWalk.i64_in _ oo
 have e2:((BitVec.ofInt 64 (m:Int)) ||| (BitVec.ofInt 64 (n:Int))).toNat=m ||| n:=by
   simp only [BitVec.toNat_or,BitVec.ofInt_natCast,BitVec.toNat_ofNat];rw [qbs oo,qbs oo]
 show (do eqGuard .or t x y (.int .i64 (m:Int)) (.int .i64 (n:Int));binOp .or t (.int .i64 (m:Int)) (.int .i64 (n:Int)):Sem vL).run P w'=_;simp only [eqGuard,binOp,Op.intBits];show Result.ok (Value.int .i64 (IntKind.i64.wrap (((BitVec.ofInt 64 (m:Int)) ||| (BitVec.ofInt 64 (n:Int))).toNat:Nat))) w'=_;rw [e2,e1]
def zeH {n:Nat} {ku:IntKind} (hn:n<62) (k:K (.int .i64 ((2^n:Nat):Int))):RD P (bin .shl t x y (.int .i64 1) (.int ku (n:Int))) w K:=by
 refine za9 (λw' _=>?_) k;have hp:(2^n:Nat)<4611686018427387904:=qaY oo hn;have e1:IntKind.i64.wrap ((2^n:Nat):Int)=((2^n:Nat):Int):=by generalize 2^n=q at hp;exact IntWalk.i64_in _ oo
 have e0:¬((n:Int)<0):=oo;have e2:min n 64=n:=oo;show (do eqGuard .shl t x y (.int .i64 1) (.int ku (n:Int));binOp .shl t (.int .i64 1) (.int ku (n:Int)):Sem vL).run P w'=_;simp only [eqGuard,binOp,Op.shift,e0,if_false,qaF];show Result.ok (Value.int .i64 (IntKind.i64.wrap ((1:Int)*2^(min n 64)))) w'=_;rw [e2,<-e1];simp
def zcc {g0 dst:TypeId} {n:Nat} (hs:(P.underlying g0).isSome=true) (hd:P.underlying dst=some (.int .u64)) (hn:n<9223372036854775808) (k:K (.int .u64 (n:Int))):RD P (convert g0 dst (.int .i64 (n:Int))) w K:=by
 refine za9 (λ_ _=>?_) k;obtain ⟨_,g1⟩:=Option.isSome_iff_exists.mp hs;have:IntKind.u64.wrap (n:Int)=n:=by simp [IntKind.wrap,IntKind.signed,IntKind.bits];omega
 simp [convert,run_underlying g1,run_underlying hd,Conv.intToInt,this]
end zaK
def zau {b:Bool} (k:K (.bool (!b))):RD P (Op.unary .not (.bool b)) w K:=za9 (λ_ _=>rfl) k
def za0 {p:Prop} [Decidable p] (k:K (.bool (decide (¬p)))):RD P (Op.unary .not (.bool (decide p))) w K:=
 za9 (λw' _=>by simp [Op.unary]) k
def zke {t e:TypeId} {x y:Operand} {a:Option Addr} {n c:Nat} (ht:P.underlying t=some (.slice e)) (k:K (.bool a.isNone)):RD P (bin .eql t x y (.slice a n c) (.slice none 0 0)) w K:=
 za9 (λw' _=>by simp only [bin,eqGuard,binOp];simp [run_equal_slice_nil w' t e a n c ht]) k
def zal {vs:Array vL} {i:Nat} {v:vL} (h:vs[i]?=some v) (k:K v):RD P (Instr.extract (.tuple vs) i) w K:=
 za9 (λw' _=>by simp [Instr.extract,h]) k
def zC8 {v:vL} {x:Int}:Is w v x↔v=.int .i64 x/\I64 x:=by
 constructor
 . rintro ⟨_,_,⟨_,rfl,h⟩,rfl⟩;exact ⟨rfl,h⟩
 rintro ⟨rfl,h⟩;exact ⟨[],_,⟨rfl,rfl,h⟩,rfl⟩
def zBG {v:vL} {x:Bool}:Is w v x↔v=.bool x:=by
 constructor
 . rintro ⟨_,_,⟨_,rfl⟩,rfl⟩;rfl
 rintro rfl;exact ⟨[],_,⟨rfl,rfl⟩,rfl⟩
def zAd {v:vL} {x:ByteArray}:Is w v x↔v=.string x/\x.size<=maxLen:=by
 constructor
 . rintro ⟨_,_,⟨_,rfl,h⟩,rfl⟩;exact ⟨rfl,h⟩
 rintro ⟨rfl,h⟩;exact ⟨[],_,⟨rfl,rfl,h⟩,rfl⟩
section strings
def bts (s:ByteArray):List UInt8:=s.data.toList
def zaB (s:ByteArray):(bts s).length=s.size:=by simp [bts]
def zoc {a b:ByteArray} (h:bts a=bts b):a=b:=by
 obtain ⟨⟨_⟩⟩:=a;obtain ⟨⟨_⟩⟩:=b;simp only [bts] at h;rw [h]
instance decMemBA:∀ (s:ByteArray) (l:List ByteArray),Decidable (s∈l)
 | s,[]=>isFalse (by simp)
 | s,x :: l=>if h:s=x then isTrue (by simp [h]) else match decMemBA s l with
   | isTrue h'=>isTrue (by simp [h'])
   | isFalse h'=>isFalse (by simp [h,h'])
def zb8 {t ty:TypeId} {s:ByteArray} (ht:P.underlying t=some .string) (k:K (.int .i64 (s.size:Int))):RD P (Builtin.len_ #[t] ty [Value.string s].toArray) w K:=
 za9 (λw' _=>by simp [Builtin.len_,run_underlying ht];rfl) k
def zba {t:TypeId} {s:ByteArray} {i:Nat} (ht:P.underlying t=some .string) (hi:i<s.size) (k:K (.int .u8 (((bts s)[i]'(by rw [zaB];exact hi)).toNat:Int))):RD P (Instr.index t (.string s) (.int .i64 (i:Int))) w K:=by
 refine za9 (λ_ _=>?_) k
 have h1:s[i]?=some ((bts s)[i]'(by rw [zaB];exact hi)):=by
   rw [getElem?_pos s i hi];rfl
 simp [Instr.index,asIntOf,run_underlying ht,h1]
def zvw (a b:ByteArray):(a.toList == b.toList)=decide (a=b):=by
 rw [ByteArray.toList_eq,ByteArray.toList_eq];by_cases h:a=b
 . subst h;simp
 have:¬a.data.toList=b.data.toList:=λe=>h (zoc e);simp only [h,qak];simpa using this
def zat {t:TypeId} {x y:Operand} {a b:ByteArray} (k:K (.bool (decide (a=b)))):RD P (bin .eql t x y (.string a) (.string b)) w K:=
 za9 (λw' _=>by simp only [bin,eqGuard,binOp,Op.stringOp,zvw];rfl) k
def ze7 {t:TypeId} {x y:Operand} {a b:ByteArray} (k:K (.bool (decide (a≠b)))):RD P (bin .neq t x y (.string a) (.string b)) w K:=
 za9 (λw' _=>by simp only [bin,eqGuard,binOp,Op.stringOp,zvw];simp) k
end strings
section data
variable {α β:Type} [Rep α] [Rep β]
def zdU {v:vL} {l:List α} (h:Is w v l):∃ a cap Fi xs,v=.slice a l.length cap/\l.length<=cap/\cap<=maxLen/\Cells Fi w xs l /\
   (l=[]\/∃ b o,a=some ⟨b,o,none⟩/\w.rangeAt b o xs/\b<w.heap.size):=by
 obtain ⟨_,_,⟨a,cap,Fi,xs,rfl,h1,h2,h3,h4⟩,rfl⟩:=h;refine ⟨a,cap,Fi,xs,rfl,h1,h2,h3,?_⟩;rcases h4 with ⟨h,_⟩ | ⟨b,o,ha,_,hr,hb⟩
 . exact .inl h
 exact .inr ⟨b,o,ha,hr,hb⟩
def zan {v:vL} {l:List α} (h:Is w v l):l.length<=9223372036854775807:=by
 obtain ⟨_,_,_,_,_,_,h2,_⟩:=zdU h;rw [zak] at h2;omega
def zC9 {v:vL} (h:v=.slice none 0 0):Is w v ([]:List α):=by
 subst h;exact ⟨[],_,⟨none,0,[],[],rfl,lr _,z0 _,⟨rfl,rfl⟩,.inl ⟨rfl,rfl⟩⟩,rfl⟩
def zk8 {lo:Nat} {v:vL} (h:v=.slice none 0 0):Own lo w v ([]:List α):=by
 subst h;exact ⟨[],⟨⟨_,⟨none,0,[],[],rfl,lr _,z0 _,⟨rfl,rfl⟩,.inl ⟨rfl,rfl⟩⟩,rfl⟩,qas,Wr.nil w⟩,ss⟩
def zae {t ty e:TypeId} {v:vL} {l:List α} (ht:P.underlying t=some (.slice e)) (h:Is w0 v l) (k:K (.int .i64 (l.length:Int))) :
   RD P (Builtin.len_ #[t] ty [v].toArray) w K:=by
 obtain ⟨_,_,_,_,rfl,_⟩:=zdU h;exact za9 (λ_ _=>by simp [Builtin.len_,run_underlying ht];rfl) k
def zaP {b o:Nat} {x y:List vL} (h:w.rangeAt b o (x++y)):w.rangeAt b o x/\w.rangeAt b (o+x.length) y:=by
 refine ⟨λj v hv=>h j v ?_,λj v hv=>?_⟩
 . rw [List.getElem?_append_left (List.getElem?_eq_some_iff.1 hv).1];exact hv
 have:=h (x.length+j) v (by rw [List.getElem?_append_right oo];simpa using hv);rwa [<-qbW] at this
def zfv {b o:Nat} {x y:List vL} (h:w.rangeAt b o x) (k:w.rangeAt b (o+x.length) y):w.rangeAt b o (x++y):=by
 intro j v hv;rcases qaw j x.length with hj | hj
 . rw [List.getElem?_append_left hj] at hv;exact h j v hv
 rw [List.getElem?_append_right hj] at hv;have:=k (j-x.length) v hv;rwa [show o+x.length+(j-x.length)=o+j by omega] at this
def Cells.at {F:List Nat} {xs:List vL} {l:List α} {b o i:Nat} (h:Cells F w xs l) (hr:w.rangeAt b o xs) (hi:i<l.length):At w b (o+i*Rep.size α) l[i]:=by
 have e:l=l.take i++(l[i] :: l.drop (i+1)):=by simp
 rw [e] at h;obtain ⟨_,_,x1,_,rfl,rfl,h1,h2⟩:=Cells.split h;obtain ⟨G1,_,c1,_,rfl,rfl,k1,_⟩:=h2;have hl:x1.length=i*Rep.size α:=by rw [Cells.len h1,qao];congr 1;omega
 have:=zaP (zaP hr).2;rw [hl] at this;exact ⟨G1,c1,k1,this.1⟩
def tyI (P:pG) (t:TypeId):Option (Nat×Nat×Bool):=
 match P.info? t,P.underlying t with
 | some i,some d=>some (i.size,i.bytes,d.isRow)
 | _,_=>none
theorem zdd {t s by_:Nat} {g:Bool} (h:tyI P t=some (s,by_,g)):∃ i d,P.info? t=some i/\P.underlying t=some d/\i.size=s/\i.bytes=by_/\d.isRow=g:=by
 unfold tyI at h;cases hi:P.info? t with
 | none=>simp [hi] at h
 | some i=>
   cases hd:P.underlying t with
   | none=>simp [hi,hd] at h
   | some d=>simp only [hi,hd,qaq,qaB] at h;exact ⟨i,d,rfl,rfl,h.1,h.2.1,h.2.2⟩
def za6 {t s by_:Nat} {g:Bool} (h:tyI P t=some (s,by_,g)) (w:wD):(sizeOf t).run P w=.ok s w:=by
 obtain ⟨_,_,hi,_,hs,_⟩:=zdd h;simp [sizeOf,typeInfo,hi,hs]
def zcd {t s by_:Nat} {g:Bool} (h:tyI P t=some (s,by_,g)) (w:wD):(isAgg t).run P w=.ok g w:=by
 obtain ⟨_,d,_,hd,_,_,hg⟩:=zdd h;unfold isAgg;rw [Sem.run_bind,run_underlying hd w];cases d<;>subst hg<;>simp
def zdL {t e:TypeId} {b o n cap s by_:Nat} {g:Bool} {i:Int} (ht:P.underlying t=some (.slice e)) (he:tyI P e=some (s,by_,g)) (h0:0<=i) (h1:i<n) (w:wD) :
   (Instr.indexAt t (.slice (some ⟨b,o,none⟩) n cap) (.int .i64 i)).run P w=.ok (.pointer (some ⟨b,o+i.toNat*s,none⟩)) w:=by
 simp [Instr.indexAt,run_underlying ht,asIntOf,h0,h1,za6 he,Addr.add_mid]
def zdo {t e:TypeId} {by_:Nat} {v:vL} {l:List α} {i:Int} (ht:P.underlying t=some (.slice e)) (he:tyI P e=some (Rep.size α,by_,Rep.agg α)) (h:Is w0 v l) (h0:0<=i) (h1:i.toNat<l.length)
   (k:∀ b o,At w0 b o (l[i.toNat]'h1)->K (.pointer (some ⟨b,o,none⟩))):RD P (Instr.indexAt t v (.int .i64 i)) w K:=by
 obtain ⟨_,_,_,_,rfl,_,_,hc,hh⟩:=zdU h;rcases hh with rfl | ⟨b,o,rfl,hr,_⟩
 . simp at h1
 exact za9 (λw' _=>zdL ht he h0 oo w') (k _ _ (Cells.at hc hr h1))
def zac {t e:TypeId} {by_:Nat} {v:vL} {l:List α} {i:Nat} (ht:P.underlying t=some (.slice e)) (he:tyI P e=some (Rep.size α,by_,Rep.agg α)) (h:Is w0 v l) (h1:i<l.length)
   (k:∀ b o,At w0 b o l[i]->K (.pointer (some ⟨b,o,none⟩))):RD P (Instr.indexAt t v (.int .i64 (i:Int))) w K:=
 zdo ht he h oo (by simpa using h1) (λb o hA=>k b o (by simpa using hA))
theorem zeb {t by_ b o:Nat} {F:List Nat} {cs:List vL} {x:α} (ht:tyI P t=some (Rep.size α,by_,Rep.agg α)) (hr:rep F w cs x) (hc:w.rangeAt b o cs) :
   (Instr.loadAt t (.pointer (some ⟨b,o,none⟩))).run P w=.ok (mkv α cs) w:=by
 obtain ⟨_,d,hi,hd,hs,_,hg⟩:=zdd ht;have hl:=Rep.len hr;cases hag:Rep.agg α with
 | true=>
   rw [run_loadAt_mid w b o t cs d hc hd (by rw [hg,hag]) (by simp [hi,hs,hl])];simp [mkv,hag]
 | false=>
   have h1:=Rep.sz hag;rw [h1] at hl;obtain ⟨c,rfl⟩:=qbf.1 hl;have h0:w.cell? ⟨b,o,none⟩=some c:=by simpa using hc 0 c rfl
   have hA:=zcd ht w;rw [hag] at hA;simp [Instr.loadAt,Instr.sureAddr,loadVar,hA,h0,mkv,hag]
def zab {t by_ b o:Nat} {x:α} (ht:tyI P t=some (Rep.size α,by_,Rep.agg α)) (h:At w0 b o x) (hx:Ext w0 w) (k:∀ v,Is w0 v x->K v) :
   RD P (Instr.loadAt t (.pointer (some ⟨b,o,none⟩))) w K:=by
 obtain ⟨F,cs,hr,hc⟩:=h;exact za9 (λ_ g0=>zeb ht (zb7 hr (hx.t g0)) (zbw hc (hx.t g0))) (k _ ⟨F,cs,hr,rfl⟩)
def zsB {t by_ b o:Nat} {F:List Nat} {cs:List vL} {x:α} (ht:tyI P t=some (Rep.size α,by_,Rep.agg α)) (hr:rep F w cs x) (hc:w.rangeAt b o cs) (k:K (mkv α cs)) :
   RD P (Instr.loadAt t (.pointer (some ⟨b,o,none⟩))) w K:=
 za9 (λw' hx'=>zeb ht (zb7 hr hx') (zbw hc hx')) k
def zad {t by_ b o:Nat} {x:Int} (ht:tyI P t=some (1,by_,false)) (h:At w0 b o x) (hx:Ext w0 w) (k:I64 x->K (.int .i64 x)) :
   RD P (Instr.loadAt t (.pointer (some ⟨b,o,none⟩))) w K:=
 zab (α:=Int) ht h hx λv hv=>by obtain ⟨rfl,h⟩:=zC8.1 hv;exact k h
def zaq {t by_ b o:Nat} {x:ByteArray} (ht:tyI P t=some (1,by_,false)) (h:At w0 b o x) (hx:Ext w0 w) (k:x.size<=maxLen->K (.string x)) :
   RD P (Instr.loadAt t (.pointer (some ⟨b,o,none⟩))) w K:=
 zab (α:=ByteArray) ht h hx λv hv=>by obtain ⟨rfl,h⟩:=zAd.1 hv;exact k h
def zaC {t by_ b o:Nat} {x:Bool} (ht:tyI P t=some (1,by_,false)) (h:At w0 b o x) (hx:Ext w0 w) (k:K (.bool x)) :
   RD P (Instr.loadAt t (.pointer (some ⟨b,o,none⟩))) w K:=
 zab (α:=Bool) ht h hx λv hv=>by obtain rfl:=zBG.1 hv;exact k
def zdv (P:pG) (t:TypeId) (i:Nat):Option Nat:=
 match P.underlying t with
 | some (.struct fs)=>match fs[i]? with
   | some f=>match P.info? f.type with
     | some j=>bif Nat.beq j.size 0 then none else some f.offset
     | none=>none
   | none=>none
 | _=>none
theorem zaa {t i off b o:Nat} (hf:zdv P t i=some off) (k:K (.pointer (some ⟨b,o+off,none⟩))):RD P (Instr.fieldAt t (.pointer (some ⟨b,o,none⟩)) i) w K:=by
 refine za9 (λ_ _=>?_) k;unfold zdv at hf;cases hu:P.underlying t with
 | none=>simp [hu] at hf
 | some d=>
   cases d with
   | struct fs=>
     simp only [hu] at hf;cases hfi:fs[i]? with
     | none=>simp [hfi] at hf
     | some f=>
       simp only [hfi] at hf;cases hin:P.info? f.type with
       | none=>simp [hin] at hf
       | some j=>
         simp only [hin] at hf;cases hb:Nat.beq j.size 0 with
         | true=>simp [hb] at hf
         | false=>
           simp only [hb,cond_false,qaq] at hf;have g0:¬j.size=0:=λe=>by rw [e] at hb;cases hb
           subst hf;simp [Instr.fieldAt,run_underlying hu,hfi,Instr.sureAddr,fieldPlace,sizeOf,typeInfo,hin,g0,Addr.add_mid]
   | _=>simp [hu] at hf
def zcB {b o:Nat} {p:α×β} (h:At w b o p):At w b o p.1:=by
 obtain ⟨_,_,⟨F1,_,c1,_,rfl,rfl,h1,_⟩,hr⟩:=h;exact ⟨F1,c1,h1,(zaP hr).1⟩
def zbi {b o:Nat} {p:α×β} (h:At w b o p):At w b (o+Rep.size α) p.2:=by
 obtain ⟨_,_,⟨_,F2,_,c2,rfl,rfl,h1,h2⟩,hr⟩:=h;have:=(zaP hr).2;rw [Rep.len h1] at this;exact ⟨F2,c2,h2,this⟩
def zvx {a:Option Addr} {cap:Nat} {l:List α} (h:Is w (.slice a l.length cap) l) (k:Nat) (hk:k<=l.length) (s:Nat) (hs:s=Rep.size α) :
   Is w (.slice (if cap=k then a else a.map (·.add (k*s))) (l.length-k) (cap-k)) (l.drop k):=by
 subst hs;obtain ⟨_,_,⟨_,_,_,_,rfl,_,_,hc,h4⟩,hv⟩:=h;simp only [mkv,Rep.agg,cond_false,qbO,Value.slice.injEq] at hv;obtain ⟨rfl,_,rfl⟩:=hv;have e:l=l.take k++l.drop k:=by simp
 have C:(l.drop k).length=l.length-k:=by simp
 rw [e] at hc;obtain ⟨_,F2,x1,x2,rfl,rfl,c1,c2⟩:=Cells.split hc;have g1:x1.length=k*Rep.size α:=by rw [Cells.len c1,qao];congr 1;omega
 by_cases hd:l.drop k=[]
 . refine ⟨[],_,⟨if cap=k then a else a.map (·.add (k*Rep.size α)),cap-k,F2,x2,rfl,by rw [C];omega,oo,c2,.inl ⟨hd,rfl⟩⟩,?_⟩;rw [<-C];rfl
 have g2:k<l.length:=by
   rcases qaw k l.length with h' | h'
   . exact h'
   exact absurd (List.drop_eq_nil_iff.2 h') hd
 rcases h4 with ⟨rfl,_⟩ | ⟨b,o,rfl,rfl,hr,hb⟩
 . simp at g2
 have g0:=(zaP hr).2;rw [g1] at g0;refine ⟨_,_,⟨_,cap-k,F2,x2,rfl,by rw [C];omega,oo,c2,.inr ⟨b,o+k*Rep.size α,rfl,rfl,g0,hb⟩⟩,?_⟩;rw [qad oo,<-C];simp only [qcC,Addr.add_mid];rfl
def zgA {t e:TypeId} {by_:Nat} {v:vL} {l:List α} {i:Int} (ht:P.underlying t=some (.slice e)) (he:tyI P e=some (Rep.size α,by_,Rep.agg α)) (h:Is w0 v l) (h0:0<=i) (h1:i.toNat<=l.length)
   (k:∀ v',Is w0 v' (l.drop i.toNat)->K v'):RD P (Instr.sliceAt t v (some (.int .i64 i)) none none) w K:=by
 obtain ⟨a,cap,_,_,rfl,_,_,_⟩:=zdU h;refine za9 (v:=.slice (if cap=i.toNat then a else a.map (·.add (i.toNat*Rep.size α))) (l.length-i.toNat) (cap-i.toNat)) (λw' _=>?_) (k _ (zvx h i.toNat h1 _ rfl))
 have hb:(Instr.sliceBounds true l.length cap (some (.int .i64 i)) none none).run P w'=.ok (i.toNat,l.length,cap) w':=by
   have:i<=(l.length:Int):=oo;simp [Instr.sliceBounds,Instr.sliceBound,asIntOf,h0,this]
 simp [Instr.sliceAt,Instr.slice,run_underlying ht,hb,za6 he]
end data
end
end Go.Sh
namespace Go.Sh
section
variable {P:pG} {g:Cfg} {s u:Env} {w:wD} {K:Exit->Env->wD->Prop} {E:Env->wD->Prop} {J:vL->wD->Prop} {ρ:Operand->vL} {a b:Code} {id i n t d m fl:Nat} {v:vL} {l:List Nat} {ol:List Oper} {ops:Array Oper} {c:Bool} {ext:Xt} {o:Oper} {x y z:Operand}
def zhc {α:Sort _} {c:Bool} {p q:α}:cond c p q=if c=true then p else q:=by cases c<;>rfl
def zsC:(Nat.beq n m=true)=(n=m):=Nat.beq_eq
def zru:(zbu m t=true)=((m >>> t)%2=1):=by
 unfold zbu;rw [zsC];show (1 &&& (m >>> t)=1)=_;rw [Nat.and_comm,qcH]
def zyM:(List.elem n []=true)=False:=by simp [List.elem]
def zyN:(List.elem n (m :: l)=true)=(n=m\/List.elem n l=true):=by simp [List.elem_cons]
theorem zDa:upd s d v t=if t=d then v else s t:=by
 unfold upd;by_cases h:t=d
 . rw [qah h,show Nat.beq t d=true from zsC▸h];rfl
 rw [qad h];cases h2:Nat.beq t d with
 | true=>exact absurd (zsC▸h2) h
 | false=>rfl
theorem zDb:mix m s u t=if (m >>> t)%2=1 then u t else s t:=by
 unfold mix;by_cases h:(m >>> t)%2=1
 . rw [qah h,show zbu m t=true from zru▸h];rfl
 rw [qad h];cases h2:zbu m t with
 | true=>exact absurd (zru▸h2) h
 | false=>rfl
def Jn (P:pG) (g:Cfg) (a b:Code) (s:Env) (w:wD) (K:Exit->Env->wD->Prop):Option (Nat×List Nat)->Prop
 | some (m,L)=>JOIN L (λJ=>vc P g a s w (zkx K λs' w'=>J (L.map s') w')) (λu w'=>vc P g b (mix m s u) w' K)
 | none=>vc P g a s w (zkx K λs' w'=>vc P g b s' w' K)
def Lp (P:pG) (g:Cfg) (c:Code) (s:Env) (w:wD) (K:Exit->Env->wD->Prop):Option (Nat×List Nat)->Prop
 | some (m,L)=>LOOPI L (L.map s) w λu w' next=>vc P g c (mix m s u) w' (zkx K λs' w''=>next (L.map s') w'')
 | none=>False
def R3 (P:pG) (g:Cfg) (id:Nat) (ol:List Oper) (s:Env) (w:wD) (K:Env->wD->Prop):Option (List Nat×Nat)->Prop
 | some (l,fl)=>if g.xs.elem id=true then XR (λX=>zeU P ⟨g.ext,some X⟩ ol fl K l s w) else zeU P ⟨g.ext,none⟩ ol fl K l s w
 | none=>False
def R2 (P:pG) (g:Cfg) (id:Nat) (ol:List Oper) (s:Env) (w:wD) (K:Env->wD->Prop):Option (Nat×Nat)->Prop
 | some (m,p)=>zEp P ⟨g.ext,none⟩ ol m p s w K
 | none=>R3 P g id ol s w K (find g.draws id)
def R1 (P:pG) (g:Cfg) (id:Nat) (ol:List Oper) (s:Env) (w:wD) (K:Env->wD->Prop):Option Nat->Prop
 | some m=>zyD P ⟨g.ext,none⟩ ol m s w K
 | none=>R2 P g id ol s w K (find g.pars id)
def zBH:vc P g .skip s w K=K .normal s w:=by rw [vc]
def zDc:vc P g (.region id ops false) s w K=zeU P ⟨g.ext,none⟩ ops.toList 0 (K .normal) (List.range ops.size) s w:=by rw [vc]
theorem zBI:vc P g (.region id ops true) s w K=R1 P g id ops.toList s (World.drew1 w) (K .normal) (find g.gpars id):=by
 rw [vc];cases h1:find g.gpars id with
 | some m=>rfl
 | none=>
   show _=R2 P g id ops.toList s (World.drew1 w) (K .normal) (find g.pars id);cases h2:find g.pars id with
   | some m=>rfl
   | none=>
     show _=R3 P g id ops.toList s (World.drew1 w) (K .normal) (find g.draws id);cases h3:find g.draws id with
     | some m=>obtain ⟨_,_⟩:=m;show (bif _ then _ else _)=_;rw [zhc];rfl
     | none=>rfl
def zDd:vc P g (.seq a b) s w K=Jn P g a b s w K ((zaG b).bind (find g.joins)):=by
 rw [vc];cases (zaG b).bind (find g.joins)<;>rfl
def zyO:vc P g (.block id a) s w K=vc P g a s w (zk3 id K):=by rw [vc]
def zBJ:vc P g (.loop a) s w K=Lp P g a s w K ((zaG a).bind (find g.loops)):=by
 rw [vc];cases (zaG a).bind (find g.loops)<;>rfl
def zBK:vc P g (.exit id) s w K=K (.exit id) s w:=by rw [vc]
def zDe:vc P g .ret s w K=K .ret s w:=by rw [vc]
def BRq (v:vL) (kt kf:Prop):Prop:=BR v kt kf
def zBL (v:vL) (kt kf ks:Prop):Prop:=GBR v kt kf ks
def zDf {kt kf:Prop}:BRq v kt kf=BR v kt kf:=Eq.trans rfl rfl
def zBM {kt kf ks:Prop}:zBL v kt kf ks=GBR v kt kf ks:=Eq.trans rfl rfl
def zAe {kt kf:Prop}:BR (.bool true) kt kf=kt:=Eq.trans rfl rfl
def zAf {kt kf:Prop}:BR (.bool false) kt kf=kf:=Eq.trans rfl rfl
def zvy {kt kf ks:Prop}:GBR (.bool true) kt kf ks=kt:=Eq.trans rfl rfl
def zvz {kt kf ks:Prop}:GBR (.bool false) kt kf ks=kf:=Eq.trans rfl rfl
def zAg {kt kf:Prop}:BR undef kt kf=False:=Eq.trans rfl rfl
def zvA {kt kf ks:Prop}:GBR undef kt kf ks=ks:=Eq.trans rfl rfl
@[congr] theorem zEY {kt kf:Prop} {q q':vL} (h:q=q'):BRq q kt kf=BRq q' kt kf:=by rw [h]
@[congr] theorem zEA {kt kf ks:Prop} {q q':vL} (h:q=q'):zBL q kt kf ks=zBL q' kt kf ks:=by rw [h]
theorem zDg:vc P g (.cond x a b) s w K=BRq (ev s x) (vc P g a (lit s x true) w K) (vc P g b (lit s x false) w K):=by rw [vc];rfl
def FR:Option Nat->Code->Option Nat
 | some i,_=>some i
 | none,b=>zaG b
def zAh:zaG (.region id ops c)=some id:=Eq.trans rfl rfl
def zAi:zaG (.seq a b)=FR (zaG a) b:=by rw [zaG];cases zaG a<;>rfl
def zAj:zaG (.block id a)=zaG a:=Eq.trans rfl rfl
def zAk:zaG (.loop a)=zaG a:=Eq.trans rfl rfl
def zAl:zaG (.cond x a b)=none:=Eq.trans rfl rfl
def zAm:zaG (.exit id)=none:=Eq.trans rfl rfl
def zAn:zaG .ret=none:=Eq.trans rfl rfl
def zsD {α:Type}:find ([]:List (Nat×α)) n=none:=Eq.trans rfl rfl
def zsE {α:Type} {k:Nat} {q:α} {r:List (Nat×α)}:find ((k,q) :: r) n=if Nat.beq k n=true then some q else find r n:=by rw [find,zhc]
def zsF {N:Env->wD->Prop}:zkx K N .normal s w=N s w:=Eq.trans rfl rfl
def zsG {N:Env->wD->Prop}:zkx K N (.exit id) s w=K (.exit id) s w:=Eq.trans rfl rfl
def zsH {N:Env->wD->Prop}:zkx K N .ret s w=K .ret s w:=Eq.trans rfl rfl
def zAo:zk3 id K (.exit i) s w=if Nat.beq i id=true then K .normal s w else K (.exit i) s w:=by rw [zk3,zhc]
def zAp:zk3 id K .normal s w=K .normal s w:=Eq.trans rfl rfl
def zAq:zk3 id K .ret s w=K .ret s w:=Eq.trans rfl rfl
def zvB {rs:List ResultVar}:zC5 P rs J .normal s w=zrm P s w rs λvs=>J (one vs) w:=Eq.trans rfl rfl
def zvC {rs:List ResultVar}:zC5 P rs J .ret s w=zrm P s w rs λvs=>J (one vs) w:=Eq.trans rfl rfl
def zvD {k:List vL->Prop}:zrm P s w [] k=k []:=Eq.trans rfl rfl
def zvE {r:List ResultVar} {k:List vL->Prop}:zrm P s w (.tmp t :: r) k=zrm P s w r λvs=>k (s t :: vs):=Eq.trans rfl rfl
def zvF {r:List ResultVar} {k:List vL->Prop}:zrm P s w (.cell i t :: r) k=RD P (zbr t (s i)) w λv=>zrm P s w r λvs=>k (v :: vs):=Eq.trans rfl rfl
def zvG:one [v]=v:=Eq.trans rfl rfl
def zvH:one []=.tuple #[]:=Eq.trans rfl rfl
def zvI {q:vL} {r:List vL}:one (v :: q :: r)=.tuple (v :: q :: r).toArray:=Eq.trans rfl rfl
def zAr:ev s (.tmp t)=s t:=Eq.trans rfl rfl
def zAs:ev s (.const v)=v:=Eq.trans rfl rfl
def zAt:ev s (.func n)=.func (.func n) #[] #[]:=Eq.trans rfl rfl
def zvJ:put s (some d) v=upd s d v:=Eq.trans rfl rfl
def zvK:put s none v=s:=Eq.trans rfl rfl
def zvL {c:Bool}:lit s (.tmp t) c=upd s t (.bool c):=Eq.trans rfl rfl
def zvM {α:Type} {q:α} {r:List α}:nth (q :: r) 0=some q:=Eq.trans rfl rfl
def zvN {α:Type} {q:α} {r:List α}:nth (q :: r) (n+1)=nth r n:=Eq.trans rfl rfl
def nD:Option vL->vL
 | some v=>v
 | none=>undef
def zBN {r:List vL}:zBy r t=nD (nth r t):=by unfold zBy;cases nth r t<;>rfl
def zAu:nD (some v)=v:=Eq.trans rfl rfl
def zvO:zeU P ext ol fl E [] s w=E s w:=Eq.trans rfl rfl
def zvP {r:List Nat}:zeU P ext ol fl E (i :: r) s w=zfZ P ext ol fl i s w (zeU P ext ol fl E r):=Eq.trans rfl rfl
def S3 (P:pG) (ext:Xt) (o:Oper) (flag:Bool) (s:Env) (w:wD) (E:Env->wD->Prop) (d:Nat) (want:Bool):Option (Option (Nat×Bool))->Prop
 | some (some _)=>zBL (s d)
         (if want=true then opF P ext o flag (upd s d (.bool true)) w E else E (put (upd s d (.bool true)) o.dst undef) w)
         (if want=true then E (put (upd s d (.bool false)) o.dst undef) w else opF P ext o flag (upd s d (.bool false)) w E)
         (E (put (upd s d undef) o.dst undef) w)
 | _=>BRq (s d)
         (if want=true then opF P ext o flag (upd s d (.bool true)) w E else E (put (upd s d (.bool true)) o.dst undef) w)
         (if want=true then E (put (upd s d (.bool false)) o.dst undef) w else opF P ext o flag (upd s d (.bool false)) w E)
def S2 (P:pG) (ext:Xt) (ol:List Oper) (j:Nat) (o:Oper) (flag:Bool) (s:Env) (w:wD) (E:Env->wD->Prop) (want:Bool):Option Nat->Prop
 | none=>False
 | some d=>S3 P ext o flag s w E d want (match (nth ol j).bind (·.guard) with | none=>none | some q=>some (some q))
def S1 (P:pG) (ext:Xt) (ol:List Oper) (fl i:Nat) (s:Env) (w:wD) (E:Env->wD->Prop) (o:Oper):Option (Nat×Bool)->Prop
 | none=>opF P ext o (zbu fl i) s w E
 | some (j,want)=>S2 P ext ol j o (zbu fl i) s w E want ((nth ol j).bind (·.dst))
def S0 (P:pG) (ext:Xt) (ol:List Oper) (fl i:Nat) (s:Env) (w:wD) (E:Env->wD->Prop):Option Oper->Prop
 | none=>False
 | some o=>S1 P ext ol fl i s w E o o.guard
theorem zBO:zfZ P ext ol fl i s w E=S0 P ext ol fl i s w E (nth ol i):=by
 unfold zfZ S0;cases h:nth ol i with
 | none=>rfl
 | some o=>
   simp only [S1];cases hg:o.guard with
   | none=>rfl
   | some q=>
     obtain ⟨j,_⟩:=q;simp only [S2];cases hd:(nth ol j).bind (·.dst) with
     | none=>rfl
     | some d=>
       simp only;cases h2:(nth ol j).bind (·.guard) with
       | none=>simp only [S3,zhc,BRq,zBL]
       | some q=>simp only [S3,zhc,BRq,zBL]
def Ef (w w':wD):Option (Nat->Prop)->Prop
 | none=>Ext w w'
 | some X=>ExtX X w w'
def zDh {g0:Bool}:opF P ext o g0 s w E=opK P ext o (ev s) w (λv w'=>if g0=true then Ef w w' ext.X/\E (put s o.dst v) w' else E (put s o.dst v) w'):=by
 unfold opF;congr 1;funext v w';rw [zhc];cases hx:ext.X<;>rfl
def Rq (P:pG) (m:Sem vL) (w:wD) (K:vL->Prop):Option (Nat->Prop)->Prop
 | none=>RD P m w K
 | some X=>RDX P X m w K
variable {dst:Option Nat} {ty ty2:TypeId} {pos:String} {af:Array Edge} {gu:Option (Nat×Bool)} {aa:Array Operand} {ts:Array TypeId} {ps:Array (Nat×Operand)} {f:FuncId}
def zvQ:opK P ext ⟨dst,.move x,ty,pos,af,gu⟩ ρ w J=J (ρ x) w:=Eq.trans rfl rfl
def zpB:opK P ext ⟨dst,.assign x,ty,pos,af,gu⟩ ρ w J=J (ρ x) w:=Eq.trans rfl rfl
def zvR:opK P ext ⟨dst,.pick x y z,ty,pos,af,gu⟩ ρ w J=BRq (ρ x) (J (ρ y) w) (J (ρ z) w):=Eq.trans rfl rfl
def zAv:opK P ext ⟨dst,.nilCheck x,ty,pos,af,gu⟩ ρ w J=NIL (ρ x) (J (ρ x) w):=Eq.trans rfl rfl
def zsI:opK P ext ⟨dst,.alloc t,ty,pos,af,gu⟩ ρ w J=OP P (Instr.alloc t true (.tuple #[])) w J:=Eq.trans rfl rfl
def zAw:opK P ext ⟨dst,.box t x,ty,pos,af,gu⟩ ρ w J=OP P (Instr.box t (ρ x)) w J:=Eq.trans rfl rfl
def zpC:opK P ext ⟨dst,.buildSlice t n ps,ty,pos,af,gu⟩ ρ w J=OP P (Instr.buildSlice t n (prs ρ ps.toList).toArray) w J:=Eq.trans rfl rfl
def zsJ:opK P ext ⟨dst,.store t x y,ty,pos,af,gu⟩ ρ w J=OPU P (Instr.storeAt t (ρ x) (ρ y)) w (J undef):=Eq.trans rfl rfl
def zpD:opK P ext ⟨dst,.makeSlice t x y,ty,pos,af,gu⟩ ρ w J=OP P (Instr.makeSlice t (ρ x) (ρ y)) w J:=Eq.trans rfl rfl
def zvS:opK P ext ⟨dst,.call { callee:=.value (.func f),args:=aa,argTypes:=ts },ty,pos,af,gu⟩ ρ w J=if ext.l.elem f=true then OPN P (callFunc f (aa.toList.map ρ).toArray) w J else CALL P f (aa.toList.map ρ) w J:=by unfold opK;simp only [zhc]
def zvT:opK P ext ⟨dst,.call { callee:=.value (.tmp t),args:=aa,argTypes:=ts },ty,pos,af,gu⟩ ρ w J=OPN P (zpv (ρ (.tmp t)) (aa.toList.map ρ)) w J:=Eq.trans rfl rfl
def zna:opK P ext ⟨dst,.call { callee:=.builtin .append,args:=aa,argTypes:=ts },ty,pos,af,gu⟩ ρ w J=OP P (Builtin.append_ ts ty (aa.toList.map ρ).toArray) w J:=Eq.trans rfl rfl
def zpE:opK P ext ⟨dst,.call { callee:=.builtin .clear,args:=aa,argTypes:=ts },ty,pos,af,gu⟩ ρ w J=OP P (Builtin.clear_ ts ty (aa.toList.map ρ).toArray) w J:=Eq.trans rfl rfl
def zvU:opK P ext ⟨dst,.call { callee:=.builtin .len,args:=aa,argTypes:=ts },ty,pos,af,gu⟩ ρ w J=Rq P (Builtin.len_ ts ty (aa.toList.map ρ).toArray) w (λv=>J v w) ext.X:=by unfold opK;simp only [zdR];cases hx:ext.X<;>rfl
def zvV:opK P ext ⟨dst,.call { callee:=.builtin .min,args:=aa,argTypes:=ts },ty,pos,af,gu⟩ ρ w J=Rq P (Builtin.min_ ts ty (aa.toList.map ρ).toArray) w (λv=>J v w) ext.X:=by unfold opK;simp only [zdR];cases hx:ext.X<;>rfl
def zvW:opK P ext ⟨dst,.call { callee:=.builtin .max,args:=aa,argTypes:=ts },ty,pos,af,gu⟩ ρ w J=Rq P (Builtin.max_ ts ty (aa.toList.map ρ).toArray) w (λv=>J v w) ext.X:=by unfold opK;simp only [zdR];cases hx:ext.X<;>rfl
def zsK:opK P ext ⟨dst,.build t ps,ty,pos,af,gu⟩ ρ w J=Rq P (Instr.build t (prs ρ ps.toList).toArray) w (λv=>J v w) ext.X:=by unfold opK;simp only [zdR];cases hx:ext.X<;>rfl
def zvX:opK P ext ⟨dst,.load t x,ty,pos,af,gu⟩ ρ w J=Rq P (Instr.loadAt t (ρ x)) w (λv=>J v w) ext.X:=by unfold opK;simp only [zdR];cases hx:ext.X<;>rfl
def zAx {bo:BinOp}:opK P ext ⟨dst,.binOp bo t x y ty2,ty,pos,af,gu⟩ ρ w J=Rq P (bin bo t (isC x) (isC y) (ρ x) (ρ y)) w (λv=>J v w) ext.X:=by unfold opK;simp only [zdR];cases hx:ext.X<;>rfl
def zDi {uo:UnOp}:opK P ext ⟨dst,.unOp uo t x,ty,pos,af,gu⟩ ρ w J=Rq P (Op.unary uo (ρ x)) w (λv=>J v w) ext.X:=by unfold opK;simp only [zdR];cases hx:ext.X<;>rfl
def zvY:opK P ext ⟨dst,.convert n t x,ty,pos,af,gu⟩ ρ w J=Rq P (convert n t (ρ x)) w (λv=>J v w) ext.X:=by unfold opK;simp only [zdR];cases hx:ext.X<;>rfl
def zvZ {fq:Fn} {g0:Array Operand}:opK P ext ⟨dst,.makeFunc fq aa g0,ty,pos,af,gu⟩ ρ w J=Rq P (Instr.makeFunc fq (aa.toList.map ρ).toArray (g0.toList.map ρ).toArray) w (λv=>J v w) ext.X:=by unfold opK;simp only [zdR];cases hx:ext.X<;>rfl
def zDj {lo hi mx:Option Operand}:opK P ext ⟨dst,.slice t x lo hi mx,ty,pos,af,gu⟩ ρ w J=Rq P (Instr.sliceAt t (ρ x) (lo.map ρ) (hi.map ρ) (mx.map ρ)) w (λv=>J v w) ext.X:=by unfold opK;simp only [zdR];cases hx:ext.X<;>rfl
def zDk:opK P ext ⟨dst,.fieldAddr t x i,ty,pos,af,gu⟩ ρ w J=Rq P (Instr.fieldAt t (ρ x) i) w (λv=>J v w) ext.X:=by unfold opK;simp only [zdR];cases hx:ext.X<;>rfl
def zDl:opK P ext ⟨dst,.field t x i,ty,pos,af,gu⟩ ρ w J=Rq P (Instr.field t (ρ x) i) w (λv=>J v w) ext.X:=by unfold opK;simp only [zdR];cases hx:ext.X<;>rfl
def zDm:opK P ext ⟨dst,.indexAddr t x y,ty,pos,af,gu⟩ ρ w J=Rq P (Instr.indexAt t (ρ x) (ρ y)) w (λv=>J v w) ext.X:=by unfold opK;simp only [zdR];cases hx:ext.X<;>rfl
def zDn:opK P ext ⟨dst,.index t x y,ty,pos,af,gu⟩ ρ w J=Rq P (Instr.index t (ρ x) (ρ y)) w (λv=>J v w) ext.X:=by unfold opK;simp only [zdR];cases hx:ext.X<;>rfl
def zAy:opK P ext ⟨dst,.extract x i,ty,pos,af,gu⟩ ρ w J=Rq P (Instr.extract (ρ x) i) w (λv=>J v w) ext.X:=by unfold opK;simp only [zdR];cases hx:ext.X<;>rfl
@[congr] theorem zEr {q q':List Nat} (h:q=q'):zeU P ext ol fl E q s w=zeU P ext ol fl E q' s w:=by rw [h]
@[congr] theorem zEB {k:List vL->Prop} {q q':List ResultVar} (h:q=q'):zrm P s w q k=zrm P s w q' k:=by rw [h]
@[congr] theorem zFd {q q':Option (Nat×List Nat)} (h:q=q'):Jn P g a b s w K q=Jn P g a b s w K q':=by rw [h]
@[congr] theorem zFe {q q':Option (Nat×List Nat)} (h:q=q'):Lp P g a s w K q=Lp P g a s w K q':=by rw [h]
@[congr] theorem zFf {q q':Option Nat} (h:q=q'):R1 P g id ol s w E q=R1 P g id ol s w E q':=by rw [h]
@[congr] theorem zFg {q q':Option (Nat×Nat)} (h:q=q'):R2 P g id ol s w E q=R2 P g id ol s w E q':=by rw [h]
@[congr] theorem zFh {q q':Option (List Nat×Nat)} (h:q=q'):R3 P g id ol s w E q=R3 P g id ol s w E q':=by rw [h]
@[congr] theorem zFi {q q':Option Oper} (h:q=q'):S0 P ext ol fl i s w E q=S0 P ext ol fl i s w E q':=by rw [h]
@[congr] theorem zFj {q q':Option (Nat×Bool)} (h:q=q'):S1 P ext ol fl i s w E o q=S1 P ext ol fl i s w E o q':=by rw [h]
@[congr] theorem zFk {j:Nat} {flag want:Bool} {q q':Option Nat} (h:q=q'):S2 P ext ol j o flag s w E want q=S2 P ext ol j o flag s w E want q':=by rw [h]
@[congr] theorem zFl {flag want:Bool} {q q':Option (Option (Nat×Bool))} (h:q=q'):S3 P ext o flag s w E d want q=S3 P ext o flag s w E d want q':=by rw [h]
@[congr] theorem zFm {m:Sem vL} {k:vL->Prop} {q q':Option (Nat->Prop)} (h:q=q'):Rq P m w k q=Rq P m w k q':=by rw [h]
@[congr] theorem zFn {q q':Option Nat} (h:q=q'):FR q a=FR q' a:=by rw [h]
@[congr] theorem zEZ {α:Type} {l:List α} {q q':Nat} (h:q=q'):nth l q=nth l q':=by rw [h]
theorem zAz {L:List Nat}:Jn P g a b s w K (some (m,L))=JOIN L (λJ=>vc P g a s w (zkx K λs' w'=>J (L.map s') w')) (λu w'=>vc P g b (mix m s u) w' K):=Eq.trans rfl rfl
def zAA:Jn P g a b s w K none=vc P g a s w (zkx K λs' w'=>vc P g b s' w' K):=Eq.trans rfl rfl
def zAB {L:List Nat}:Lp P g a s w K (some (m,L))=LOOPI L (L.map s) w λu w' next=>vc P g a (mix m s u) w' (zkx K λs' w''=>next (L.map s') w''):=Eq.trans rfl rfl
def zAC:R1 P g id ol s w E (some m)=zyD P ⟨g.ext,none⟩ ol m s w E:=Eq.trans rfl rfl
def zAD:R1 P g id ol s w E none=R2 P g id ol s w E (find g.pars id):=Eq.trans rfl rfl
def zAE:R2 P g id ol s w E (some (m,n))=zEp P ⟨g.ext,none⟩ ol m n s w E:=Eq.trans rfl rfl
def zAF:R2 P g id ol s w E none=R3 P g id ol s w E (find g.draws id):=Eq.trans rfl rfl
def zAG:R3 P g id ol s w E (some (l,fl))=if g.xs.elem id=true then XR (λX=>zeU P ⟨g.ext,some X⟩ ol fl E l s w) else zeU P ⟨g.ext,none⟩ ol fl E l s w:=Eq.trans rfl rfl
def zAH:S0 P ext ol fl i s w E (some o)=S1 P ext ol fl i s w E o o.guard:=Eq.trans rfl rfl
def zAI:S1 P ext ol fl i s w E o none=opF P ext o (zbu fl i) s w E:=Eq.trans rfl rfl
def zAJ {j:Nat} {want:Bool}:S1 P ext ol fl i s w E o (some (j,want))=S2 P ext ol j o (zbu fl i) s w E want ((nth ol j).bind (·.dst)):=Eq.trans rfl rfl
def zDo {j:Nat} {flag want:Bool}:S2 P ext ol j o flag s w E want (some d)=S3 P ext o flag s w E d want (match (nth ol j).bind (·.guard) with | none=>none | some q=>some (some q)):=Eq.trans rfl rfl
def zAK {flag want:Bool}:S3 P ext o flag s w E d want none=BRq (s d)
         (if want=true then opF P ext o flag (upd s d (.bool true)) w E else E (put (upd s d (.bool true)) o.dst undef) w)
         (if want=true then E (put (upd s d (.bool false)) o.dst undef) w else opF P ext o flag (upd s d (.bool false)) w E):=Eq.trans rfl rfl
def zAL {flag want:Bool} {q:Nat×Bool}:S3 P ext o flag s w E d want (some (some q))=zBL (s d)
         (if want=true then opF P ext o flag (upd s d (.bool true)) w E else E (put (upd s d (.bool true)) o.dst undef) w)
         (if want=true then E (put (upd s d (.bool false)) o.dst undef) w else opF P ext o flag (upd s d (.bool false)) w E)
         (E (put (upd s d undef) o.dst undef) w):=Eq.trans rfl rfl
def zAM {w':wD}:Ef w w' none=Ext w w':=Eq.trans rfl rfl
def zAN {w':wD} {X:Nat->Prop}:Ef w w' (some X)=ExtX X w w':=Eq.trans rfl rfl
def zAO {q:Sem vL} {k:vL->Prop}:Rq P q w k none=RD P q w k:=Eq.trans rfl rfl
def zAP {q:Sem vL} {k:vL->Prop} {X:Nat->Prop}:Rq P q w k (some X)=RDX P X q w k:=Eq.trans rfl rfl
def zAQ:FR (some i) a=some i:=Eq.trans rfl rfl
def zAR:FR none a=zaG a:=Eq.trans rfl rfl
def zDp {fn:Func} {c:Code} {rs:List ResultVar} {aa:List vL} {R:vL->wD->Prop} (h:fn.body=some c) (h2:fn.results=rs.toArray):vcF P g fn aa w R=vc P g c (zBy aa) w (zC5 P rs R):=by unfold vcF;rw [h,h2]
end
end Go.Sh
namespace Go.Proofs.YtkgiigmcbgifdaaGreatDoor
open Go Go.Sh Go.Proofs
variable {K:vL->Prop} {P:pG} {n:Nat} {w:wD}
def extL:List Nat:=[0,1,108,158,249,294,320,321,322,323,324,325,326,327,328,329,330,331,332,333,334,335,336,337,338,339,340,341]
set_option maxRecDepth 100000 in
theorem zDq:((List.range 343).all λf=>extL.elem f || zeO Tryz.prog f)=true:=by kernel_rfl
def ent:∀ f,f<343->extL.elem f=false->zeO Tryz.prog f=true:=λf hf hx=>by
 have:=qaH.1 zDq f (qaL.2 hf);rw [hx,qdb] at this;exact this
def mixed:Tryz.prog.follows .mixedOrders=true:=by kernel_rfl
abbrev VW:=vL->wD->Prop
noncomputable abbrev tp:pG:=Tryz.prog
def zbv {u:Nat->vL} {a:Nat} {x:vL} (h:[a].map u=[x]):u a=x:=by simpa using h
def zcv {u:Nat->vL} {a b:Nat} {x y:vL} (h:[a,b].map u=[x,y]):u a=x/\u b=y:=by simpa using h
def zEC {u:Nat->vL} {a b c:Nat} {x y z:vL} (h:[a,b,c].map u=[x,y,z]):u a=x/\u b=y/\u c=z:=by simpa using h
def zaw {t:TypeId} {x y:Operand} (k:K (.int .i64 ((n+1:Nat):Int))) (h:n<9223372036854775807:=by omega):RD P (bin .add t x y (.int .i64 (n:Int)) (.int .i64 1)) w K:=zsA h k
def kf (j l:List (Nat×Nat×List Nat)) (d:List (Nat×List Nat×Nat)):Cfg:=⟨extL,j,l,d,[],[],[]⟩
set_option maxRecDepth 100000 in
theorem co {g:Cfg} {f:FuncId} {fn:Func} {args:List vL} {w:wD} {R:VW} {c:Code} {rs:List ResultVar} {F:(VW)->Prop} (hf:tp.funcs[f]?=some fn) (h:F R) (hb:fn.body=some c:=by rfl) (hr:fn.results=rs.toArray:=by rfl)
    (hl:args.length.ble fn.ntmps=true:=by kernel_rfl) (hok:okF g 343 fn=true:=by kernel_rfl) (e:∀ R:VW,vc tp g c (zBy args) w (zC5 tp rs R)=F R:=by (intro R;simp (config := { maxSteps := 10000000 }) only [↓zBH,↓zDc,↓zBI,↓zDd,↓zDg,↓zyO,↓zBJ,↓zBK,↓zDe,↓zAh,↓zAi,↓zAj,↓zAk,↓zAl,↓zAm,↓zAn,↓zsD,↓zsE,↓zsF,↓zsG,↓zsH,↓zAo,↓zAp,↓zAq,↓zvB,↓zvC,↓zvD,↓zvE,↓zvF,↓zvG,↓zvH,↓zvI,↓zAr,↓zAs,↓zAt,↓zvJ,↓zvK,↓zvL,↓zvM,↓zvN,↓zBN,↓zAu,↓zvO,↓zvP,↓zBO,↓zDh,↓zhc,↓zDa,↓zDb,↓zvQ,↓zpB,↓zvR,↓zAv,↓zsI,↓zAw,↓zpC,↓zsJ,↓zpD,↓zvS,↓zvT,↓zna,↓zpE,↓zvU,↓zvV,↓zvW,↓zsK,↓zvX,↓zAx,↓zDi,↓zvY,↓zvZ,↓zDj,↓zDk,↓zDl,↓zDm,↓zDn,↓zAy,↓zAz,↓zAA,↓zAB,↓zAC,↓zAD,↓zAE,↓zAF,↓zAG,↓zAH,↓zAI,↓zAJ,↓zDo,↓zAK,↓zAL,↓zAM,↓zAN,↓zAO,↓zAP,↓zAQ,↓zAR,↓zAe,↓zAf,↓zvy,↓zvz,↓zAg,↓zvA,zAh,zAi,zAj,zAk,zAl,zAm,zAn,zsD,zsE,zsF,zsG,zsH,zAo,zAp,zAq,zvB,zvC,zvD,zvE,zvF,zvG,zvH,zvI,zAr,zAs,zAt,zvJ,zvK,zvL,zvM,zvN,zAu,zvO,zvP,zvQ,zpB,zvR,zAv,zsI,zAw,zpC,zsJ,zpD,zvS,zvT,zna,zpE,zvU,zvV,zvW,zsK,zvX,zAx,zDi,zvY,zvZ,zDj,zDk,zDl,zDm,zDn,zAy,zAz,zAA,zAB,zAC,zAD,zAE,zAF,zAG,zAH,zAI,zAJ,zDo,zAK,zAL,zAM,zAN,zAO,zAP,zAQ,zAR,zAe,zAf,zvy,zvz,zAg,zvA,zDf,zBM,zsC,zru,zyM,zyN,Nat.reduceEqDiff,Nat.reduceShiftRight,Nat.reduceMod,Option.bind,Option.map,qbX,qcy,List.range,List.range.loop,qcP,qam,qaI,Nat.reduceAdd,qba,kf,extL,zEp,zyD,zh2,zn4,onL,onD,zBz,zpw,zmT,ziB,zgv,zkc,zf0,List.take,List.drop,Region.binds,zbr,prs,isC,↓reduceIte,qaz,false_or,or_true,true_or,qa2,reduceCtorEq];exact rfl)) (hg:g.ext=extL:=by rfl):CALL tp f args w R:=
  zBF (hg▸ent) mixed hf (qbv hl) hok (by rw [zDp hb hr,e R];exact h)
end Go.Proofs.YtkgiigmcbgifdaaGreatDoor
namespace Go.Sh
open Go.RowKit (Below)
open Rep (rep)
variable {F G:List Nat} {w w':wD}
structure Chg (F:List Nat) (w w':wD):Prop where
 os:w'.os=w.os
 tape:w'.tape=w.tape
 output:w'.output=w.output
 size:w.heap.size<=w'.heap.size
 block:∀ b,b<w.heap.size->b∉F->w'.heap[b]?=w.heap[b]?
def Chg.refl (F:List Nat) (w:wD):Chg F w w:=⟨rfl,rfl,rfl,lr _,λ_ _ _=>rfl⟩
def Chg.trans {a b c:wD} (h:Chg F a b) (k:Chg F b c):Chg F a c:=
 ⟨k.os.trans h.os,k.tape.trans h.tape,k.output.trans h.output,qal h.size k.size,λi hi hF=>(k.block i (qan hi h.size) hF).trans (h.block i hi hF)⟩
def Chg.mono {a b:wD} (h:Chg F a b) (hs:∀ x∈F,x∈G):Chg G a b:=
 ⟨h.os,h.tape,h.output,h.size,λi hi hF=>h.block i hi λe=>hF (hs i e)⟩
def Ext.chg {a b:wD} (F:List Nat) (h:Ext a b):Chg F a b:=⟨h.os,h.tape,h.output,h.size,λi hi _=>h.block i hi⟩
def Chg.ext {a b:wD} (h:Chg [] a b):Ext a b:=⟨h.os,h.tape,h.output,h.size,λi hi=>h.block i hi ss⟩
def Ext.chg_trans {a b c:wD} (h:Ext a b) (k:Chg F b c) (hF:∀ x∈F,a.heap.size<=x):Ext a c:=
 ⟨k.os.trans h.os,k.tape.trans h.tape,k.output.trans h.output,qal h.size k.size,
   λi hi=>(k.block i (qan hi h.size) λe=>by have:=hF i e;omega).trans (h.block i hi)⟩
def zai (w:wD):Ext w (World.drew1 w):=⟨rfl,rfl,rfl,lr _,λ_ _=>rfl⟩
def zaU (w:wD) (o:Obj):Ext w (w.alloc o):=⟨rfl,rfl,rfl,ss,λk hk=>Below.heap_alloc w o k hk⟩
def zpF {row:Option Nat} (h:w.grownBy w' row):Chg row.toList w w':=
 ⟨h.os,h.tape,h.output,h.size,λb hb hF=>h.block b hb λe=>hF (by simp [<-e])⟩
section
variable {P:pG} {w w0:wD} {α β:Type} [Rep α] [Rep β]
def Is.chg {F:List Nat} {w':wD} {v:vL} {x:α} {G:List Nat} (h:OwnF G w v x) (hc:Chg F w w') (hd:∀ b∈G,b∉F):OwnF G w' v x:=
 h.keep λb hb=>hc.block b (h.lt b hb) (hd b hb)
def zbU (P:pG) (e:TypeId):Bool:=match P.info? e with | some i=>i.zero.isSome | none=>false
def zec (w:wD) (g:Nat) (cs:Array vL):Chg [g] w (w.setRow g cs):=
 ⟨rfl,rfl,rfl,ss,λb _ hF=>setRow_other w g b _ (by simpa using hF)⟩
theorem ze8 {cs:List vL} {F:List Nat} {x:α} (h:rep F w cs x):(mkv α cs).cells.toList=cs:=by
 unfold mkv;cases ha:Rep.agg α with
 | true=>simp [Value.cells]
 | false=>
   have hl:=Rep.len h;rw [Rep.sz ha] at hl;obtain ⟨c,rfl⟩:=qbf.1 hl;have h1:=Rep.one h c ss;cases c<;>first | rfl | (simp [Value.oneCell'] at h1)
def zey {t by_ g o:Nat} {cur:Array vL} {e:TypeId} {F:List Nat} {cs:List vL} {x:α} (ht:tyI P t=some (Rep.size α,by_,Rep.agg α)) (hr:rep F w cs x)
   (hg:w.heap[g]?=some (.cells cur e (0,0))) (g0:o+Rep.size α<=cur.size) :
   (Instr.storeAt t (.pointer (some ⟨g,o,none⟩)) (mkv α cs)).run P w=.ok () (w.setRow g (cur.toList.take o++cs++cur.toList.drop (o+cs.length)).toArray):=by
 obtain ⟨_,_,_,_,_,_⟩:=zdd ht;have hc:=ze8 hr;have hl:=Rep.len hr;have g1:(mkv α cs).cells.size=Rep.size α:=by rw [<-qaK,hc,hl]
 have:=run_storeCells_at (P:=P) g o e cs 0 cur w hg (by rw [hl];simpa using g0) (Rep.one hr);simp only [qck] at this;simp [Instr.storeAt,Instr.sureAddr,storeVar,g1,za6 ht,hc,this]
def zk9 {t e:TypeId} {s by_ n cap g k:Nat} {ag:Bool} {K:vL->Prop} (ht:P.underlying t=some (.slice e)) (he:tyI P e=some (s,by_,ag)) (hk:k<n) (kk:K (.pointer (some ⟨g,k*s,none⟩))) :
   RD P (Instr.indexAt t (.slice (some ⟨g,0,none⟩) n cap) (.int .i64 (k:Int))) w K:=
 za9 (λw' _=>by rw [zdL ht he oo oo];simp) kk
def zbk {t:TypeId} {v:vL} {x:α} {K:vL->wD->Prop} (h:Is w0 v x) (hx:Ext w0 w) (k:∀ w',Ext w w'->At w' w.heap.size 0 x->K (.pointer (some ⟨w.heap.size,0,none⟩)) w') :
   OP P (Instr.box t v) w K:=by
 obtain ⟨F,cs,hr,rfl⟩:=h;have hc:=ze8 hr;refine ⟨_,w.alloc (.cells (mkv α cs).cells t),by simp [Instr.box,newVar,newRow],k _ (zaU w _) ⟨F,cs,zb7 hr (hx.t (zaU w _)),?_⟩⟩;intro _ _ hu;simp only [World.cell?,heap_alloc_new w _];rw [<-hc] at hu;simpa using hu
def Blk (g e:Nat) (w:wD) (cs:List vL):Prop:=w.heap[g]?=some (.cells cs.toArray e (0,0))
def Blk.lt {g e:Nat} {cs:List vL} (h:Blk g e w cs):g<w.heap.size:=(Array.getElem?_eq_some_iff.1 h).1
def Blk.ext {g e:Nat} {w':wD} {cs:List vL} (h:Blk g e w cs) (hx:Ext w w'):Blk g e w' cs:=by
 unfold Blk;rw [hx.heap h.lt];exact h
def Blk.keep {g e:Nat} {w':wD} {cs:List vL} (h:Blk g e w cs) (hk:w'.heap[g]?=w.heap[g]?):Blk g e w' cs:=by
 unfold Blk;rw [hk];exact h
def Blk.chg {g e:Nat} {F:List Nat} {w':wD} {cs:List vL} (h:Blk g e w cs) (hc:Chg F w w') (hg:g∉F):Blk g e w' cs:=h.keep (hc.block g h.lt hg)
def Blk.range {g e:Nat} {cs:List vL} (h:Blk g e w cs):w.rangeAt g 0 cs:=by
 intro _ _ hv;have h':w.heap[g]?=some (.cells cs.toArray e (0,0)):=h;simpa [World.cell?,h'] using hv
def Blk.at {g e:Nat} {F:List Nat} {cs:List vL} {x:α} (h:Blk g e w cs) (hr:rep F w cs x):At w g 0 x:=⟨F,cs,hr,h.range⟩
def zcq (P:pG) (e:TypeId):Option (List vL):=match P.info? e with | some i=>i.zero.map (·.cells.toList) | none=>none
theorem za1 {e:TypeId} {zs:List vL} {K:vL->wD->Prop} (hz:zcq P e=some zs) (k:∀ w',Ext w w'->Blk w.heap.size e w' zs->K (.pointer (some ⟨w.heap.size,0,none⟩)) w') :
   OP P (Instr.alloc e true (.tuple #[])) w K:=by
 unfold zcq at hz;cases hi:P.info? e with
 | none=>simp [hi] at hz
 | some i=>
   simp only [hi] at hz;obtain ⟨z,g0,rfl⟩:=qaS.1 hz;exact ⟨_,w.alloc (.cells z.cells e),by simp [Instr.alloc,zeroValue,typeInfo,hi,g0,newVar,newRow],k _ (zaU w _) (by unfold Blk;rw [heap_alloc_new w _])⟩
def Var (P:pG) (t:TypeId) (w:wD) (g:Nat) (v:vL):Prop:=∃ e cs by_,Blk g e w cs/\v=.agg cs.toArray/\tyI P t=some (cs.length,by_,true)
def Var.lt {t g:Nat} {v:vL} (h:Var P t w g v):g<w.heap.size:=by obtain ⟨_,_,_,hB,_⟩:=h;exact hB.lt
def Var.ext {t g:Nat} {v:vL} {w':wD} (h:Var P t w g v) (hx:Ext w w'):Var P t w' g v:=by
 obtain ⟨e,cs,b,hB,r⟩:=h;exact ⟨e,cs,b,hB.ext hx,r⟩
def Var.keep {t g:Nat} {v:vL} {w':wD} (h:Var P t w g v) (hk:w'.heap[g]?=w.heap[g]?):Var P t w' g v:=by
 obtain ⟨e,cs,b,hB,r⟩:=h;exact ⟨e,cs,b,hB.keep hk,r⟩
def zcC {t g:Nat} {v:vL} {K:vL->Prop} (h:Var P t w0 g v) (hx:Ext w0 w) (k:K v):RD P (Instr.loadAt t (.pointer (some ⟨g,0,none⟩))) w K:=by
 obtain ⟨_,cs,_,hB,rfl,ht⟩:=h;obtain ⟨_,d,hi,hd,hs,_,hg⟩:=zdd ht;exact za9 (λw' g0=>run_loadAt_mid w' g 0 t cs d ((hB.ext hx).ext g0).range hd hg (by simp [hi,hs])) k
def za2 {t by_:Nat} {v:vL} {x:α} {K:vL->wD->Prop} (ht:tyI P t=some (Rep.size α,by_,true)) (ha:Rep.agg α=true) (h:Is w0 v x) (hx:Ext w0 w)
   (k:∀ w',Ext w w'->At w' w.heap.size 0 x->Var P t w' w.heap.size v->K (.pointer (some ⟨w.heap.size,0,none⟩)) w'):OP P (Instr.box t v) w K:=by
 obtain ⟨_,cs,hr,rfl⟩:=h;have hc:=ze8 hr
 have hB:Blk w.heap.size t (w.alloc (.cells (mkv α cs).cells t)) cs:=by
   unfold Blk;rw [heap_alloc_new w _];congr 2;apply qcc;simp [hc]
 refine ⟨_,w.alloc (.cells (mkv α cs).cells t),by simp [Instr.box,newVar,newRow],k _ (zaU w _) (hB.at (zb7 hr (hx.t (zaU w _)))) ⟨t,cs,by_,hB,by simp [mkv,ha],by rw [Rep.len hr];exact ht⟩⟩
theorem zbN {e by_:Nat} {zs:List vL} {v:vL} {x:α} {K:vL->wD->Prop} (hz:zcq P e=some zs) (hl:zs.length=Rep.size α) (ht:tyI P e=some (Rep.size α,by_,true)) (ha:Rep.agg α=true) (h:Is w0 v x) (hx:Ext w0 w)
   (k:∀ w',Ext w w'->At w' w.heap.size 0 x->Var P e w' w.heap.size v->K (.pointer (some ⟨w.heap.size,0,none⟩)) w') :
   OP P (Instr.alloc e true (.tuple #[])) w λp w1=>OPU P (Instr.storeAt e p v) w1 (K p):=by
 obtain ⟨_,cs,hr,rfl⟩:=h;have g1:=Rep.len hr;unfold zcq at hz;cases hi:P.info? e with
 | none=>simp [hi] at hz
 | some i=>
   simp only [hi] at hz;obtain ⟨z,g5,rfl⟩:=qaS.1 hz;refine ⟨.pointer (some ⟨w.heap.size,0,none⟩),w.alloc (.cells z.cells e),by simp [Instr.alloc,zeroValue,typeInfo,hi,g5,newVar,newRow],?_⟩;have hB:(w.alloc (.cells z.cells e)).heap[w.heap.size]?=some (.cells z.cells e (0,0)):=heap_alloc_new w _;have g2:z.cells.size=Rep.size α:=by simpa using hl
   have g9:=zb7 hr (hx.t (zaU w (.cells z.cells e)));have g3:=zey (P:=P) (t:=e) (by_:=by_) (o:=0) (by rw [ha];exact ht) g9 hB (by simp [g2]);have g0:=setRow_heap (w.alloc (.cells z.cells e)) w.heap.size z.cells (z.cells.toList.take 0++cs++z.cells.toList.drop (0+cs.length)).toArray e _ hB
   have gb:z.cells.toList.take 0++cs++z.cells.toList.drop (0+cs.length)=cs:=by
     rw [qb2,qbo,qba,qcs (by simp [g2,g1]),qaJ]
   rw [gb] at g3 g0;have g4:Ext w ((w.alloc (.cells z.cells e)).setRow w.heap.size cs.toArray):=(zaU w _).chg_trans (zec _ _ _) ss;exact ⟨_,g3,k _ g4 (Blk.at (e:=e) g0 (zb7 hr (hx.t g4))) ⟨e,cs,by_,g0,by simp [mkv,ha],by rw [g1];exact ht⟩⟩
theorem zBP {e by_:Nat} {zs:List vL} {v:vL} {x:α} {K:vL->wD->Prop} (hz:zcq P e=some zs) (hl:zs.length=Rep.size α) (ht:tyI P e=some (Rep.size α,by_,true)) (ha:Rep.agg α=true) (h:Is w0 v x) (hx:Ext w0 w)
   (k:∀ w',Ext w w'->At w' w.heap.size 0 x->Var P e w' w.heap.size v->K (.pointer (some ⟨w.heap.size,0,none⟩)) w') :
   OP P (Instr.alloc e true (.tuple #[])) w λp w1=>Ext w w1/\OPU P (Instr.storeAt e p v) w1 (K p):=by
 obtain ⟨_,cs,hr,rfl⟩:=h;have g1:=Rep.len hr;unfold zcq at hz;cases hi:P.info? e with
 | none=>simp [hi] at hz
 | some i=>
   simp only [hi] at hz;obtain ⟨z,g5,rfl⟩:=qaS.1 hz;refine ⟨.pointer (some ⟨w.heap.size,0,none⟩),w.alloc (.cells z.cells e),by simp [Instr.alloc,zeroValue,typeInfo,hi,g5,newVar,newRow],zaU w _,?_⟩;have hB:(w.alloc (.cells z.cells e)).heap[w.heap.size]?=some (.cells z.cells e (0,0)):=heap_alloc_new w _;have g2:z.cells.size=Rep.size α:=by simpa using hl
   have g9:=zb7 hr (hx.t (zaU w (.cells z.cells e)));have g3:=zey (P:=P) (t:=e) (by_:=by_) (o:=0) (by rw [ha];exact ht) g9 hB (by simp [g2]);have g0:=setRow_heap (w.alloc (.cells z.cells e)) w.heap.size z.cells (z.cells.toList.take 0++cs++z.cells.toList.drop (0+cs.length)).toArray e _ hB
   have gb:z.cells.toList.take 0++cs++z.cells.toList.drop (0+cs.length)=cs:=by
     rw [qb2,qbo,qba,qcs (by simp [g2,g1]),qaJ]
   rw [gb] at g3 g0;have g4:Ext w ((w.alloc (.cells z.cells e)).setRow w.heap.size cs.toArray):=(zaU w _).chg_trans (zec _ _ _) ss;exact ⟨_,g3,k _ g4 (Blk.at (e:=e) g0 (zb7 hr (hx.t g4))) ⟨e,cs,by_,g0,by simp [mkv,ha],by rw [g1];exact ht⟩⟩
def zod {t by_ g o e:Nat} {cs us:List vL} {F:List Nat} {x:α} {v:vL} {K:wD->Prop} (ht:tyI P t=some (Rep.size α,by_,Rep.agg α)) (hB:Blk g e w cs) (hr:rep F w us x) (hv:v=mkv α us) (ho:o+Rep.size α<=cs.length)
   (k:∀ w',Chg [g] w w'->Blk g e w' (cs.take o++us++cs.drop (o+us.length))->K w'):OPU P (Instr.storeAt t (.pointer (some ⟨g,o,none⟩)) v) w K:=by
 subst hv;have g0:w.heap[g]?=some (.cells cs.toArray e (0,0)):=hB;have:=zey (P:=P) ht hr g0 (by simpa using ho);exact ⟨_,this,k _ (zec w g _) (setRow_heap w g _ _ e _ g0)⟩
class Flat (α:Type) [Rep α]:Prop where
 flat:∀ {F w cs} {x:α},rep F w cs x->F=[]
instance:Flat Int:=⟨λh=>h.1⟩
instance:Flat Bool:=⟨λh=>h.1⟩
instance:Flat ByteArray:=⟨λh=>h.1⟩
instance [Flat α] [Flat β]:Flat (α×β):=⟨by
 rintro _ _ _ _ ⟨F1,F2,c1,c2,rfl,rfl,h1,h2⟩;rw [Flat.flat h1,Flat.flat h2];rfl⟩
theorem Cells.flat [Flat α] {xs:List vL}:∀ {l:List α} {F:List Nat} {xs:List vL},Cells F w xs l->F=[]
 | [],_,_,⟨h,_⟩=>h
 | _ :: _,_,_,⟨F1,F2,c1,c2,hF,_,h1,h2⟩=>by rw [hF,Flat.flat h1,Cells.flat (xs:=xs) h2];rfl
def Cells.set {F:List Nat} {xs:List vL} {l:List α} (h:Cells F w xs l) (k:Nat) (hk:k<l.length) {G:List Nat} {cs:List vL} {x:α} (hr:rep G w cs x) [Flat α] :
   Cells [] w (xs.take (k*Rep.size α)++cs++xs.drop (k*Rep.size α+Rep.size α)) (l.set k x):=by
 have hF:=Cells.flat (xs:=xs) h;have hG:=Flat.flat hr;subst hF hG;have e:l=l.take k++(l[k] :: l.drop (k+1)):=by simp
 rw [e] at h;obtain ⟨_,_,x1,_,g0,rfl,h1,h2⟩:=Cells.split h;obtain ⟨rfl,rfl⟩:=qct.1 g0.symm;obtain ⟨_,_,c1,c2,g1,rfl,k1,k2⟩:=h2;obtain ⟨rfl,rfl⟩:=qct.1 g1.symm;have hl:x1.length=k*Rep.size α:=by rw [Cells.len h1,qao];congr 1;omega
 have hc:=Rep.len k1;have e1:(x1++(c1++c2)).take (k*Rep.size α)=x1:=by rw [<-hl];exact List.take_left
 have e2:(x1++(c1++c2)).drop (k*Rep.size α+Rep.size α)=c2:=by
   rw [<-hl,<-hc,<-qaA,<-qab];exact List.drop_left
 rw [e1,e2];have:l.set k x=l.take k++(x :: l.drop (k+1)):=by rw [qbB];simp [hk]
 rw [this,qaA];exact Cells.append (F:=[]) (G:=[]) h1 ⟨[],[],cs,c2,rfl,rfl,hr,k2⟩
def zyP {t e:TypeId} {by_:Nat} [Flat α] {F:List Nat} {v u:vL} {l:List α} {x:α} {k:Nat} {K:wD->Prop} (ht:P.underlying t=some (.slice e)) (he:tyI P e=some (Rep.size α,by_,Rep.agg α))
   (hm:Mine F w v l) (hk:k<l.length) (hx:OwnF [] w u x) (kk:∀ w',Chg F w w'->Mine F w' v (l.set k x)->K w') :
   RD P (Instr.indexAt t v (.int .i64 (k:Int))) w λp=>OPU P (Instr.storeAt e p u) w K:=by
 obtain ⟨⟨_,⟨_,cap,_,xs,rfl,h1,h2,hc,h4⟩,rfl⟩,hn,hw⟩:=hm;obtain ⟨us,hr,rfl⟩:=hx;rcases h4 with ⟨rfl,_⟩ | ⟨b,o,rfl,rfl,g2,hb⟩
 . simp at hk
 obtain ⟨cur,e',D⟩:=hw b ss;have g3:=Cells.flat (xs:=xs) hc;subst g3;have hlx:=Cells.len hc;have g4:=Rep.len hr;have g5:(k+1)*Rep.size α<=l.length*Rep.size α:=qa6 _ oo;rw [qbu,qbY] at g5;have g9:=Rep.pos (α:=α)
 have C:∀ j,j<xs.length->cur[o+j]?=xs[j]?:=by
   intro j hj;have:=g2 j xs[j] (by simp [hj]);simpa [World.cell?,D,hj] using this
 have gb:o+xs.length<=cur.size:=by
   have hj:xs.length-1<xs.length:=oo;have:=C (xs.length-1) hj;rw [List.getElem?_eq_getElem hj] at this;have:=(Array.getElem?_eq_some_iff.1 this).1;omega
 refine za9 (v:=.pointer (some ⟨b,o+k*Rep.size α,none⟩)) (λw' _=>?_) ⟨_,zey (e:=e') (cur:=cur) he hr D oo,kk _ ((zec w b _).mono ss) ?_⟩
 . show (Instr.indexAt t (.slice (some ⟨b,o,none⟩) l.length cap) (.int .i64 (k:Int))).run P w'=_;rw [zdL ht he oo oo];simp
 refine ⟨⟨_,⟨some ⟨b,o,none⟩,cap,[],xs.take (k*Rep.size α)++us++xs.drop (k*Rep.size α+Rep.size α),ss,by simpa using h1,h2,?_,.inr ⟨b,o,rfl,rfl,?_,?_⟩⟩,rfl⟩,hn,?_⟩
 . have:=Cells.set hc k hk hr;exact Cells.keep this ss
 . intro j u hu;have g0:j<(xs.take (k*Rep.size α)++us++xs.drop (k*Rep.size α+Rep.size α)).length:=(List.getElem?_eq_some_iff.1 hu).1
   have g1:(xs.take (k*Rep.size α)++us++xs.drop (k*Rep.size α+Rep.size α)).length=xs.length:=by
     simp only [qab,qao,qbc,g4];omega
   rw [g1] at g0;simp only [World.cell?,setRow_heap w b cur _ e' _ D];simp only [qcm,qa2,if_false,List.getElem?_toArray];rw [<-hu];by_cases hj1:j<k*Rep.size α
   . rw [qaA,List.getElem?_append_left (by simp only [qao,qaK];omega),List.getElem?_take,qah oo,Array.getElem?_toList,C j g0,
       qaA,List.getElem?_append_left (by simp only [qao];omega),List.getElem?_take,qah hj1]
   by_cases hj2:j<k*Rep.size α+Rep.size α
   . rw [qaA,List.getElem?_append_right (by simp only [qao,qaK];omega),List.getElem?_append_left (by simp only [qao,qaK];omega),
       qaA,List.getElem?_append_right (by simp only [qao];omega),List.getElem?_append_left (by simp only [qao];omega)]
     congr 1;simp only [qao,qaK];omega
   rw [List.getElem?_append_right (by simp only [qab,qao,qaK];omega),List.getElem?_append_right (l₁:=xs.take _++us) (by simp only [qab,qao];omega),
     List.getElem?_drop,List.getElem?_drop,Array.getElem?_toList]
   have e1:o+k*Rep.size α+us.length+(o+j-(List.take (o+k*Rep.size α) cur.toList++us).length)=o+j:=by
     simp only [qab,qao,qaK];omega
   have e2:k*Rep.size α+Rep.size α+(j-(List.take (k*Rep.size α) xs++us).length)=j:=by
     simp only [qab,qao];omega
   rw [e1,e2,C j g0]
 . simpa [World.setRow] using hb
 intro c hc;simp only [qaa,qag,qaz] at hc;subst hc;exact ⟨_,e',setRow_heap w c cur _ e' _ D⟩
def RowF (F:List Nat) (e:TypeId) (w:wD) (v:vL) (l:List α):Prop:=
 ∃ xs Fi,w.ownsRow 0 e (Rep.size α) v l.length xs/\Cells Fi w xs l/\F=v.ownBlock.toList++Fi/\Wr Fi w
def Row (lo:Nat) (e:TypeId) (w:wD) (v:vL) (l:List α):Prop:=∃ F,RowF F e w v l/\F.Nodup/\∀ b∈F,lo<=b
def RowF.lt {F:List Nat} {e:TypeId} {v:vL} {l:List α} (h:RowF F e w v l):∀ b∈F,b<w.heap.size:=by
 obtain ⟨_,_,ho,hc,rfl,_⟩:=h;intro b hb;rcases qae.1 hb with hb | hb
 . exact (ho.lt b (by simpa [qcQ] using hb)).2
 exact Cells.lt hc b hb
def RowF.keep {F:List Nat} {e:TypeId} {v:vL} {w':wD} {l:List α} (h:RowF F e w v l) (hk:∀ b∈F,w'.heap[b]?=w.heap[b]?):RowF F e w' v l:=by
 obtain ⟨xs,Fi,ho,hc,rfl,hw⟩:=h;refine ⟨xs,Fi,⟨ho.1,?_⟩,Cells.keep hc λb hb=>hk b (by simp [hb]),rfl,hw.keep λb hb=>hk b (by simp [hb])⟩;rcases ho.2 with hn | ⟨g,cap,cur,rfl,hb,hg,rest⟩
 . exact .inl hn
 exact .inr ⟨g,cap,cur,rfl,hb,by rw [hk g (by simp [Value.ownBlock])];exact hg,rest⟩
def RowF.ext {F:List Nat} {e:TypeId} {v:vL} {w':wD} {l:List α} (h:RowF F e w v l) (hx:Ext w w'):RowF F e w' v l:=h.keep λb hb=>hx.heap (h.lt b hb)
def Row.ext {lo:Nat} {e:TypeId} {v:vL} {w':wD} {l:List α} (h:Row lo e w v l) (hx:Ext w w'):Row lo e w' v l:=by
 obtain ⟨F,h,hn,hb⟩:=h;exact ⟨F,h.ext hx,hn,hb⟩
def RowF.own {F:List Nat} {e:TypeId} {v:vL} {l:List α} (h:RowF F e w v l):OwnF F w v l:=by
 have g0:=h.lt;obtain ⟨xs,Fi,ho,hc,rfl,_⟩:=h;rcases ho.2 with ⟨rfl,hn⟩ | ⟨g,cap,_,rfl,_,_,h1,h2,_,_⟩
 . have:l=[]:=qaj hn;subst this;obtain ⟨rfl,rfl⟩:=hc;exact ⟨_,⟨none,0,[],[],rfl,lr _,z0 _,⟨rfl,rfl⟩,.inl ⟨rfl,rfl⟩⟩,rfl⟩
 refine ⟨_,⟨_,cap,Fi,xs,rfl,h1,h2,hc,.inr ⟨g,0,rfl,rfl,?_,g0 g (by simp [Value.ownBlock])⟩⟩,rfl⟩;intro j v hv;have:=ho.cells (g:=g) rfl j v hv;rwa [Addr.add_mid] at this
def RowF.wr {F:List Nat} {e:TypeId} {v:vL} {l:List α} (h:RowF F e w v l):Wr F w:=by
 obtain ⟨_,_,ho,_,rfl,hw⟩:=h;refine Wr.append (λ_ hb=>?_) hw;rcases ho.2 with ⟨rfl,_⟩ | ⟨_,_,cur,rfl,_,hg,_⟩
 . simp [Value.ownBlock] at hb
 simp [Value.ownBlock] at hb;subst hb;exact ⟨cur,e,hg⟩
def Row.own {lo:Nat} {e:TypeId} {v:vL} {l:List α} (h:Row lo e w v l):Own lo w v l:=by
 obtain ⟨F,h,hn,hb⟩:=h;exact ⟨F,⟨h.own,hn,h.wr⟩,hb⟩
def Row.is {lo:Nat} {e:TypeId} {v:vL} {l:List α} (h:Row lo e w v l):Is w v l:=h.own.is
def ziI {t e:TypeId} {by_:Nat} {K:vL->wD->Prop} (ht:P.underlying t=some (.slice e)) (he:tyI P e=some (Rep.size α,by_,Rep.agg α))
   (k:∀ a w',Ext w w'->Row (α:=α) w.heap.size e w' (.slice (some a) 0 0) []->K (.slice (some a) 0 0) w'):OP P (Instr.buildSlice t 0 #[]) w K:=by
 refine ⟨.slice (some ⟨w.heap.size,0,none⟩) 0 0,w.alloc (.cells #[] e),?_,k _ _ (zaU w _) ⟨[w.heap.size],⟨[],[],?_,⟨rfl,rfl⟩,rfl,Wr.nil _⟩,ss,ss⟩⟩
 . have h0:Array.range 0=#[]:=by apply qcc;simp
   simp [Instr.buildSlice,run_underlying ht,za6 he,Instr.fill,newRow,h0]
 exact World.ownsRow_made w #[] 0 (z0 _) (z0 _) ss
def zla {t ty e:TypeId} {s by_:Nat} {g:Bool} (ht:P.underlying t=some (.slice e)) (he:tyI P e=some (s,by_,g)) {v:vL} {n:Nat} {xs:List vL} (ho:w.ownsRow 0 e s v n xs) (a:Option Addr) (c:Nat) :
   (Builtin.append_ #[t,t] ty #[v,.slice a 0 c]).run P w=.ok v w:=by
 have hf:(Builtin.firstCells s 0 (.slice a 0 c)).run P w=.ok #[] w:=by
   cases a with
   | none=>rfl
   | some a=>simp [Builtin.firstCells,loadCells,loadCellsFrom]
 rcases ho.2 with ⟨rfl,rfl⟩ | ⟨g,_,_,rfl,_,_,g0,_⟩
 . simp [Builtin.append_,run_underlying ht,za6 he,Builtin.lenOf,hf]
 simp [Builtin.append_,run_underlying ht,za6 he,Builtin.lenOf,hf,g0,storeCells]
def ziJ {t ty e:TypeId} {by_:Nat} {K:vL->wD->Prop} {v gh:vL} {l m:List α} {F:List Nat} (ht:P.underlying t=some (.slice e)) (he:tyI P e=some (Rep.size α,by_,Rep.agg α)) (hz:(P.info? e).map (λi=>(i.zero.map (·.cells.size)))=some (some (Rep.size α)))
   (hr:RowF F e w v l) (hn:F.Nodup) {a:Option Addr} {c:Nat} {xs:List vL} {G:List Nat} (hs:gh=.slice a m.length c) (hc:Cells G w xs m) (ha:m=[]\/∃ b o,a=some ⟨b,o,none⟩/\w.rangeAt b o xs)
   (hG:Wr G w) (hd:(G++F).Nodup) (hm:l.length+m.length<=maxLen) (hb:(l.length+m.length)*by_<=140737488355328)
   (k:∀ v' w' F',Chg v.ownBlock.toList w w'->(∀ a,v=.slice a l.length l.length->Ext w w')->RowF F' e w' v' (l++m)->F'.Nodup->(∀ b∈F',b∈F\/b∈G\/w.heap.size<=b)->K v' w'):OP P (Builtin.append_ #[t,t] ty [v,gh].toArray) w K:=by
 subst hs;obtain ⟨U,Fi,ho,g3,rfl,gc⟩:=hr;by_cases hm0:m=[]
 . subst hm0;obtain ⟨rfl,rfl⟩:=hc;refine ⟨v,w,zla ht he ho a c,k v w _ (Chg.refl _ _) (λ_ _=>xrf w) (by simpa using ⟨U,Fi,ho,g3,rfl,gc⟩) hn (λb hb=>.inl hb)⟩
 rcases ha with h | ⟨b,o,rfl,V⟩
 . exact absurd h hm0
 obtain ⟨i,_,hi,_,hs,Z,_⟩:=zdd he;simp only [hi,qcC,qaq] at hz;obtain ⟨z,hz,gi⟩:=qaS.1 hz
 obtain ⟨v',w',D,g0,g1,_⟩:=run_append_own (P:=P) w 0 t ty e i z (Rep.size α) by_ ht hi hz hs Z gi Rep.pos v l.length U ho ⟨b,o,none⟩ m.length c xs (Cells.len hc)
   (λj u hu=>by rw [Addr.add_mid];exact V j u hu) (Cells.one hc) hm hb (z0 _)
 have O:=zpF g1
 have kF:∀ b∈Fi,w'.heap[b]?=w.heap[b]?:=λb hb=>O.block b (Cells.lt g3 b hb) (λe=>by
   rw [qav] at hn;exact hn.2.2 b e b hb rfl)
 have kG:∀ b∈G,w'.heap[b]?=w.heap[b]?:=λb hb=>O.block b (Cells.lt hc b hb) (λe=>by
   rw [qav] at hd;exact hd.2.2 b hb b (by simp only [qae];exact .inl e) rfl)
 have gd:∀ q,v'.ownBlock=some q->v.ownBlock=some q\/w.heap.size<=q:=by
   intro q hq;rcases qaw q w.heap.size with _ | gj
   . left;by_cases hv0:v.ownBlock=some q
     . exact hv0
     exfalso;rcases ho.2 with ⟨rfl,gf⟩ | ⟨g,cap,cur,rfl,_,gg,h1,h2,h3,h4⟩
     . -- grown out of nil: the block is new
       have hx0:U=[]:=qaj (by simpa [gf] using ho.1);have g4:0<m.length:=qbP.2 hm0;have M:=run_append_nil (P:=P) w t ty e i z ht hi hz ⟨b,o,none⟩ m.length c xs (by rw [hs];exact Cells.len hc) (λj u hu=>by rw [Addr.add_mid];exact V j u hu) g4 (by rw [zak] at hm;omega) (by rw [Z];have:=hb;rw [qbu] at this;omega);have C:(Builtin.append_ #[t,t] ty #[.slice none 0 0,.slice (some ⟨b,o,none⟩) m.length c]).run P w=.ok v' w':=D;rw [M] at C;simp only [Result.ok.injEq] at C;rw [<-C.1] at hq;simp [Value.ownBlock] at hq;omega
     by_cases hroom:l.length+m.length<=cap
     . have g5:l.length*i.size+xs.length<=cur.size:=by rw [Cells.len hc,h3,hs,<-qbu];exact qa6 _ hroom
       have M:=run_append_room (P:=P) w t ty e i ht hi g l.length cap cur gg ⟨b,o,none⟩ m.length c xs (by rw [hs];exact Cells.len hc) (λj u hu=>by rw [Addr.add_mid];exact V j u hu) (Cells.one hc) hroom g5;have C:(Builtin.append_ #[t,t] ty #[.slice (some ⟨g,0,none⟩) l.length cap,.slice (some ⟨b,o,none⟩) m.length c]).run P w=.ok v' w':=D;rw [M] at C;simp only [Result.ok.injEq] at C;rw [<-C.1] at hq;simp [Value.ownBlock] at hq hv0;exact hv0 hq
     have M:=run_append_grow (P:=P) w t ty e i z ht hi hz ⟨g,0,none⟩ l.length cap U (by rw [hs];exact ho.1) (ho.cells (g:=g) rfl) ⟨b,o,none⟩ m.length c xs (by rw [hs];exact Cells.len hc) (λj u hu=>by rw [Addr.add_mid];exact V j u hu) oo (by rw [zak] at hm;omega) (growslice_fits oo (by rw [Z];exact hb));have C:(Builtin.append_ #[t,t] ty #[.slice (some ⟨g,0,none⟩) l.length cap,.slice (some ⟨b,o,none⟩) m.length c]).run P w=.ok v' w':=D;rw [M] at C;simp only [Result.ok.injEq] at C;rw [<-C.1] at hq;simp [Value.ownBlock] at hq;omega
   exact .inr gj
 have g2:∀ a,v=.slice a l.length l.length->Ext w w':=by
   intro a gl;have g4:0<m.length:=qbP.2 hm0;rcases ho.2 with ⟨rfl,gf⟩ | ⟨g,cap,cur,rfl,_,gg,h1,h2,h3,h4⟩
   . have M:=run_append_nil (P:=P) w t ty e i z ht hi hz ⟨b,o,none⟩ m.length c xs (by rw [hs];exact Cells.len hc) (λj u hu=>by rw [Addr.add_mid];exact V j u hu) g4 (by rw [zak] at hm;omega) (by rw [Z];have:=hb;rw [qbu] at this;omega);have C:(Builtin.append_ #[t,t] ty #[.slice none 0 0,.slice (some ⟨b,o,none⟩) m.length c]).run P w=.ok v' w':=D;rw [M] at C;simp only [Result.ok.injEq] at C;rw [<-C.2];exact (zai w).trans (zaU w.drew _)
   simp only [Value.slice.injEq,true_and] at gl;have M:=run_append_grow (P:=P) w t ty e i z ht hi hz ⟨g,0,none⟩ l.length cap U (by rw [hs];exact ho.1) (ho.cells (g:=g) rfl) ⟨b,o,none⟩ m.length c xs (by rw [hs];exact Cells.len hc) (λj u hu=>by rw [Addr.add_mid];exact V j u hu) oo (by rw [zak] at hm;omega) (growslice_fits oo (by rw [Z];exact hb));have C:(Builtin.append_ #[t,t] ty #[.slice (some ⟨g,0,none⟩) l.length cap,.slice (some ⟨b,o,none⟩) m.length c]).run P w=.ok v' w':=D;rw [M] at C;simp only [Result.ok.injEq] at C;rw [<-C.2];exact (zai w).trans (zaU w.drew _)
 refine ⟨v',w',D,k v' w' (v'.ownBlock.toList++(Fi++G)) O g2 ⟨U++xs,Fi++G,by simpa using g0,Cells.append (Cells.keep g3 kF) (Cells.keep hc kG),rfl,(gc.keep kF).append (hG.keep kG)⟩ ?_ ?_⟩
 . have g9:∀ b∈Fi,b<w.heap.size:=Cells.lt g3;have gb:∀ b∈G,b<w.heap.size:=Cells.lt hc;rw [qav] at hd hn;rw [qav,qav];refine ⟨by cases v'.ownBlock<;>simp,⟨hn.2.1,hd.1,λx hx y hy e=>hd.2.2 y hy x (by simp [hx]) e.symm⟩,?_⟩;intro x hx y hy e;subst e;rcases gd x (by simpa [qcQ] using hx) with h | h
   . rcases qae.1 hy with hy | hy
     . exact hn.2.2 x (by simp [h]) x hy rfl
     exact hd.2.2 x hy x (by simp [h]) rfl
   rcases qae.1 hy with hy | hy
   . have:=g9 x hy;omega
   have:=gb x hy;omega
 intro x hx;rcases qae.1 hx with hx | hx
 . rcases gd x (by simpa [qcQ] using hx) with h | h
   . exact .inl (by simp [h])
   exact .inr (.inr h)
 rcases qae.1 hx with hx | hx
 . exact .inl (by simp [hx])
 exact .inr (.inl hx)
end
end Go.Sh
namespace Go.Proofs.YtkgiigmcbgifdaaGreatDoor
open Go Go.Sh Go.Proofs
def cnt (k:Int) (n:Nat):List Int:=(List.range n).map λi:Nat=>k+(i:Int)
def ty2:tyI tp 2=some (1,8,false):=by kernel_rfl
def u2:tp.underlying 2=some (TypeDesc.int IntKind.i64):=by kernel_rfl
def z2:zbU tp 2=true:=by kernel_rfl
def ty3:tyI tp 3=some (1,8,false):=by kernel_rfl
def u3:tp.underlying 3=some (TypeDesc.int IntKind.i64):=by kernel_rfl
def z3:zbU tp 3=true:=by kernel_rfl
def zc3:(tp.info? 3).map (λi=>(i.zero.map (·.cells.size)))=some (some 1):=by kernel_rfl
def ty4:tyI tp 4=some (1,1,false):=by kernel_rfl
def u4:tp.underlying 4=some TypeDesc.bool:=by kernel_rfl
def z4:zbU tp 4=true:=by kernel_rfl
def zc4:(tp.info? 4).map (λi=>(i.zero.map (·.cells.size)))=some (some 1):=by kernel_rfl
def ty5:tyI tp 5=some (1,1,false):=by kernel_rfl
def u5:tp.underlying 5=some (TypeDesc.int IntKind.u8):=by kernel_rfl
def z5:zbU tp 5=true:=by kernel_rfl
def u6:tp.underlying 6=some (TypeDesc.int IntKind.u8):=by kernel_rfl
def ty9:tyI tp 9=some (1,16,false):=by kernel_rfl
def u9:tp.underlying 9=some TypeDesc.string:=by kernel_rfl
def z9:zbU tp 9=true:=by kernel_rfl
def zc9:(tp.info? 9).map (λi=>(i.zero.map (·.cells.size)))=some (some 1):=by kernel_rfl
def u10:tp.underlying 10=some TypeDesc.string:=by kernel_rfl
def u11:tp.underlying 11=some TypeDesc.string:=by kernel_rfl
def u12:tp.underlying 12=some (TypeDesc.int IntKind.u64):=by kernel_rfl
def zE0:tyI tp 24=some (1,24,false):=by kernel_rfl
def u24:tp.underlying 24=some (TypeDesc.slice 5):=by kernel_rfl
def z24:zbU tp 24=true:=by kernel_rfl
def zb9:tyI tp 26=some (1,24,false):=by kernel_rfl
def u26:tp.underlying 26=some (TypeDesc.slice 9):=by kernel_rfl
def zkD:tyI tp 27=some (1,24,false):=by kernel_rfl
def u27:tp.underlying 27=some (TypeDesc.slice 62):=by kernel_rfl
def zfs:tyI tp 29=some (3,72,true):=by kernel_rfl
def zAS:zcq tp 29=some [.slice none 0 0,.slice none 0 0,.slice none 0 0]:=by kernel_rfl
def zgX:zdv tp 29 0=some 0:=by kernel_rfl
def zhd:zdv tp 29 1=some 1:=by kernel_rfl
def zde:zdv tp 29 2=some 2:=by kernel_rfl
def zcn:tyI tp 31=some (1,24,false):=by kernel_rfl
def u31:tp.underlying 31=some (TypeDesc.slice 3):=by kernel_rfl
def z31:zbU tp 31=true:=by kernel_rfl
def zEs:(tp.info? 31).map (λi=>(i.zero.map (·.cells.size)))=some (some 1):=by kernel_rfl
def zcQ:tyI tp 32=some (1,24,false):=by kernel_rfl
def u32:tp.underlying 32=some (TypeDesc.slice 69):=by kernel_rfl
def zbO:tyI tp 34=some (5,120,true):=by kernel_rfl
def zAT:zcq tp 34=some [.slice none 0 0,.slice none 0 0,.slice none 0 0,.slice none 0 0,.slice none 0 0]:=by kernel_rfl
def zez:zdv tp 34 0=some 0:=by kernel_rfl
def zdM:zdv tp 34 1=some 1:=by kernel_rfl
def zby:zdv tp 34 2=some 2:=by kernel_rfl
def zbj:zdv tp 34 3=some 3:=by kernel_rfl
def zaH:zdv tp 34 4=some 4:=by kernel_rfl
def u38:tp.underlying 38=some (TypeDesc.slice 46):=by kernel_rfl
def u40:tp.underlying 40=some (TypeDesc.slice 31):=by kernel_rfl
def z45:zbU tp 45=true:=by kernel_rfl
def zfY:tyI tp 46=some (3,24,true):=by kernel_rfl
def z46:zbU tp 46=true:=by kernel_rfl
def zDr:(tp.info? 46).map (λi=>(i.zero.map (·.cells.size)))=some (some 3):=by kernel_rfl
def zED:zcq tp 46=some [.int .i64 0,.int .i64 0,.int .i64 0]:=by kernel_rfl
def ziK:zdv tp 46 0=some 0:=by kernel_rfl
def zkf:zdv tp 46 1=some 1:=by kernel_rfl
def znb:zdv tp 46 2=some 2:=by kernel_rfl
def zmR:tyI tp 49=some (2,16,true):=by kernel_rfl
def ze9:zdv tp 49 0=some 0:=by kernel_rfl
def zsL:zdv tp 49 1=some 1:=by kernel_rfl
def zv0:zdv tp 59 0=some 0:=by kernel_rfl
def zlb:zdv tp 59 1=some 3:=by kernel_rfl
def zed:tyI tp 60=some (1,24,false):=by kernel_rfl
def u60:tp.underlying 60=some (TypeDesc.slice 117):=by kernel_rfl
def ziL:tyI tp 62=some (2,40,true):=by kernel_rfl
def z62:zbU tp 62=true:=by kernel_rfl
def zE1:(tp.info? 62).map (λi=>(i.zero.map (·.cells.size)))=some (some 2):=by kernel_rfl
def zEt:zcq tp 62=some [.string ByteArray.empty,.slice none 0 0]:=by kernel_rfl
def znc:zdv tp 62 0=some 0:=by kernel_rfl
def zlc:zdv tp 62 1=some 1:=by kernel_rfl
def ziM:tyI tp 65=some (1,24,false):=by kernel_rfl
def u65:tp.underlying 65=some (TypeDesc.slice 67):=by kernel_rfl
def z66:zbU tp 66=true:=by kernel_rfl
def zcD:tyI tp 67=some (4,56,true):=by kernel_rfl
def z67:zbU tp 67=true:=by kernel_rfl
def zEE:(tp.info? 67).map (λi=>(i.zero.map (·.cells.size)))=some (some 4):=by kernel_rfl
def zFo:tp.underlying 67=some (TypeDesc.struct (Array.mk [Field.mk "Kind" 3 0 false "" "" 0,Field.mk "Num" 3 1 false "" "" 8,Field.mk "Name" 9 2 false "" "" 16,Field.mk "Kids" 65 3 false "" "" 32])):=by kernel_rfl
def zri:zcq tp 67=some [.int .i64 0,.int .i64 0,.string ByteArray.empty,.slice none 0 0]:=by kernel_rfl
def zfw:zdv tp 67 0=some 0:=by kernel_rfl
def zgY:zdv tp 67 1=some 1:=by kernel_rfl
def zfx:zdv tp 67 2=some 2:=by kernel_rfl
def zcr:zdv tp 67 3=some 3:=by kernel_rfl
def zdw:tyI tp 69=some (7,80,true):=by kernel_rfl
def z69:zbU tp 69=true:=by kernel_rfl
def zEF:(tp.info? 69).map (λi=>(i.zero.map (·.cells.size)))=some (some 7):=by kernel_rfl
def zsM:zcq tp 69=some [.int .i64 0,.int .i64 0,.int .i64 0,.int .i64 0,.string ByteArray.empty,.slice none 0 0,.int .i64 0]:=by kernel_rfl
def zbE:zdv tp 69 0=some 0:=by kernel_rfl
def zbG:zdv tp 69 1=some 1:=by kernel_rfl
def zgZ:zdv tp 69 2=some 2:=by kernel_rfl
def zfa:zdv tp 69 3=some 6:=by kernel_rfl
def z75:zbU tp 75=true:=by kernel_rfl
def zpG:tyI tp 92=some (1,24,false):=by kernel_rfl
def u92:tp.underlying 92=some (TypeDesc.slice 165):=by kernel_rfl
def zg0:zdv tp 94 0=some 0:=by kernel_rfl
def zfy:zdv tp 94 1=some 1:=by kernel_rfl
def zDs:zdv tp 94 2=some 2:=by kernel_rfl
def zg1:zdv tp 94 3=some 3:=by kernel_rfl
def zsN:zdv tp 94 4=some 5:=by kernel_rfl
def zld:zdv tp 107 0=some 0:=by kernel_rfl
def zBQ:zdv tp 107 1=some 1:=by kernel_rfl
def zic:zdv tp 107 2=some 2:=by kernel_rfl
def zle:zdv tp 107 3=some 3:=by kernel_rfl
def zda:tyI tp 117=some (8,128,true):=by kernel_rfl
def zE2:zbU tp 117=true:=by kernel_rfl
def zDt:(tp.info? 117).map (λi=>(i.zero.map (·.cells.size)))=some (some 8):=by kernel_rfl
def zjy:zcq tp 117=some [.int .i64 0,.string ByteArray.empty,.int .i64 0,.int .i64 0,.string ByteArray.empty,.slice none 0 0,.slice none 0 0,.slice none 0 0]:=by kernel_rfl
def zdl:zdv tp 117 0=some 0:=by kernel_rfl
def zbo:zdv tp 117 1=some 1:=by kernel_rfl
def zce:zdv tp 117 2=some 2:=by kernel_rfl
def zcf:zdv tp 117 3=some 6:=by kernel_rfl
def zca:zdv tp 117 4=some 7:=by kernel_rfl
def zcR:tyI tp 125=some (1,24,false):=by kernel_rfl
def zdj:tp.underlying 125=some (TypeDesc.slice 4):=by kernel_rfl
def zEG:zbU tp 125=true:=by kernel_rfl
def zBR:(tp.info? 125).map (λi=>(i.zero.map (·.cells.size)))=some (some 1):=by kernel_rfl
def z127:zbU tp 127=true:=by kernel_rfl
def zbc:zdv tp 127 0=some 0:=by kernel_rfl
def zoe:zdv tp 127 1=some 5:=by kernel_rfl
def zof:zdv tp 127 2=some 6:=by kernel_rfl
def zrv:zdv tp 127 3=some 7:=by kernel_rfl
def zlf:zdv tp 127 4=some 8:=by kernel_rfl
def zid:zdv tp 127 5=some 9:=by kernel_rfl
def zie:zdv tp 127 6=some 10:=by kernel_rfl
def zpH:tp.underlying 129=some (TypeDesc.slice 134):=by kernel_rfl
def zee:tyI tp 134=some (4,32,true):=by kernel_rfl
def zEu:zbU tp 134=true:=by kernel_rfl
def zuc:(tp.info? 134).map (λi=>(i.zero.map (·.cells.size)))=some (some 4):=by kernel_rfl
def zyQ:zcq tp 134=some [.int .i64 0,.int .i64 0,.bool false,.int .i64 0]:=by kernel_rfl
def zfR:zdv tp 134 0=some 0:=by kernel_rfl
def zjz:zdv tp 134 1=some 1:=by kernel_rfl
def zog:zdv tp 134 2=some 2:=by kernel_rfl
def zjA:zdv tp 134 3=some 3:=by kernel_rfl
def znd:tp.underlying 139=some (TypeDesc.slice 201):=by kernel_rfl
def zAU:tp.underlying 141=some (TypeDesc.slice 199):=by kernel_rfl
def zud:tp.underlying 150=some (TypeDesc.slice 125):=by kernel_rfl
def z164:zbU tp 164=true:=by kernel_rfl
def zef:tyI tp 165=some (3,32,true):=by kernel_rfl
def zE3:zbU tp 165=true:=by kernel_rfl
def zDu:(tp.info? 165).map (λi=>(i.zero.map (·.cells.size)))=some (some 3):=by kernel_rfl
def zlg:zdv tp 165 0=some 0:=by kernel_rfl
def zfb:zdv tp 165 1=some 1:=by kernel_rfl
def zv1:zdv tp 165 2=some 2:=by kernel_rfl
def zlh:tp.underlying 187=some (TypeDesc.int IntKind.u64):=by kernel_rfl
def zpI:tyI tp 199=some (3,24,true):=by kernel_rfl
def zE4:zbU tp 199=true:=by kernel_rfl
def zDv:(tp.info? 199).map (λi=>(i.zero.map (·.cells.size)))=some (some 3):=by kernel_rfl
def zEH:zcq tp 199=some [.int .i64 0,.int .i64 0,.int .i64 0]:=by kernel_rfl
def zoh:zdv tp 199 0=some 0:=by kernel_rfl
def zoi:zdv tp 199 1=some 1:=by kernel_rfl
def zv2:zdv tp 199 2=some 2:=by kernel_rfl
def zeI:tyI tp 201=some (2,16,true):=by kernel_rfl
def zE5:zbU tp 201=true:=by kernel_rfl
def zDw:(tp.info? 201).map (λi=>(i.zero.map (·.cells.size)))=some (some 2):=by kernel_rfl
def zyR:zcq tp 201=some [.int .i64 0,.int .i64 0]:=by kernel_rfl
def zli:zdv tp 201 0=some 0:=by kernel_rfl
def zlj:zdv tp 201 1=some 1:=by kernel_rfl
def zCX:tp.underlying 205=some (TypeDesc.slice 207):=by kernel_rfl
def zrw:tyI tp 207=some (1,8,false):=by kernel_rfl
def zif:zdv tp 215 1=some 5:=by kernel_rfl
def zgB:zdv tp 215 2=some 6:=by kernel_rfl
def zoj:zdv tp 215 3=some 7:=by kernel_rfl
def zv3:tp.underlying 239=some (TypeDesc.slice 277):=by kernel_rfl
def zmU:tyI tp 277=some (2,16,true):=by kernel_rfl
def zE6:zbU tp 277=true:=by kernel_rfl
def zDx:(tp.info? 277).map (λi=>(i.zero.map (·.cells.size)))=some (some 2):=by kernel_rfl
def zv4:zdv tp 277 0=some 0:=by kernel_rfl
def zlk:zdv tp 277 1=some 1:=by kernel_rfl
end Go.Proofs.YtkgiigmcbgifdaaGreatDoor
