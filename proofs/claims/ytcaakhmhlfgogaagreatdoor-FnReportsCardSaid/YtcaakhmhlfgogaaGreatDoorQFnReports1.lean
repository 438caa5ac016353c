/-
  Parts of the proof, put together by program.
-/
import Derived.Calls
import Derived.Orders
import Derived.Below
import Derived.Laws.Sem
import Derived.Deep.MidRow
import Derived.Laws.OwnMore
import Derived.Laws.Slices
import Derived.Laws.Entries
import Derived.Laws.Strings
import Derived.Laws.BitsLemmas
import Derived.Laws.Cover3
import Derived.IntWalk
import Derived.Laws.BytesArg
import Derived.Laws.StructEq
import Derived.Laws.Tables
import Derived.Lib.AppendStr
import Derived.Test.YtcaakhmhlfgogaaGreatDoorProg
import Derived.KernelRfl
import GoSem.ClaimChange
import Derived.ChangeArms
import Derived.WideShapes
import Derived.Shelf.LaysM
import Derived.Shelf.Strconv.Itoa3
import Derived.Laws.Strings2
import Derived.Shelf.SlSortCmp.InsertionK
import Derived.Shelf.Lays
import Derived.Shelf.Strings.Builder1
import Derived.Shelf.SlSortCmp.NoneTotal
import Derived.Ground.SlsfProg
import Derived.Shelf.Strings.Count
import Derived.Test.YtcaakhmhlfgogaaGreatDoorRows
import Derived.ProofKit
import Derived.JoinedOf
import Derived.Test.YtcaakhmhlfgogaaGreatDoorCards
import Derived.Test.YtcaakhmhlfgogaaGreatDoorTie
import Derived.OpenShut
import Derived.ShutString
import Derived.ChangeOld
import Derived.Deep.DeepHandedRow
import Derived.Lib.LaidTab
import Derived.Stop.LaidErr
import Derived.SevenTiedAt
set_option linter.unusedVariables false
set_option maxRecDepth 100000
set_option linter.unusedSimpArgs false
set_option linter.unusedSectionVars false
set_option linter.defProp false
open Go renaming Value→vL,World→wD,Program→pG
abbrev iV(n:Int):vL:=.int .i64 n
abbrev pT(b o:Nat):vL:=.pointer (some ⟨b,o,none⟩)
theorem oo {p:Prop} (h:p:=by omega):p:=h
theorem dD {p:Prop} (h:p:=by decide):p:=h
theorem ss {p:Prop} (h:p:=by simp):p:=h
theorem kK {p:Prop} (h:p:=by kernel_rfl):p:=h
theorem sd {p:Prop} (h:p:=by simp +contextual):p:=h
theorem so {p:Prop} (h:p:=by simp;omega):p:=h
def bX:=@List.length_append
def bF:=@List.mem_cons
def aH:=@if_neg
def cY:=@List.getElem_mem
def dA:=@List.length_cons
def dF:=@List.mem_append
def dL:=@List.not_mem_nil
def aP:=@if_pos
def eK:=@Decidable.not_not
def iO:=@List.take_of_length_le
def eU:=@List.length_nil
def fR:=@List.append_assoc
def lF:=@ByteArray.size_append
def fY:=@List.length_take
def eH:=@Nat.le_trans
def iA:=@Bool.and_eq_true
def qC:=@List.eq_nil_of_length_eq_zero
def kP:=@Nat.lt_of_lt_of_le
def eT:=@decide_false
def iU:=@Option.some.injEq
def cS:=@congrArg
def kL:=@List.length_map
def lZ:=@decide_eq_true_eq
def kM:=@List.nodup_nil
def pY:=@List.length_replicate
def dI:=@or_false
def tD:=@List.drop_eq_getElem_cons
def oE:=@List.nodup_append
def nG:=@List.all_eq_true
def oY:=@List.mem_singleton
def iD:=@Nat.le_refl
def kR:=@Nat.lt_or_ge
def oJ:=@List.append_nil
def qM:=@Int.toNat_natCast
def mV:=@Prod.mk.injEq
def sM:=@Array.length_toList
def tX:=@Nat.pow_le_pow_right
def sF:=@List.take_length
def vW:=@List.flatMap_append
def sZ:=@List.cons_append
def rC:=@List.mem_range
def uU:=@Nat.lt_of_le_of_lt
def sL:=@List.nil_append
def vE:=@List.flatMap_cons
def CB:=@Option.map_eq_some_iff
def tZ:=@List.nodup_cons
def wE:=@List.ext_getElem
def vB:=@Bool.or_eq_true
def xX:=@Bool.not_eq_true'
def AQ:=@Nat.testBit_two_pow
def wL:=@List.length_drop
def wM:=@List.mem_flatMap
def wJ:=@List.map_append
def AZ:=@List.pairwise_cons
def vA:=@Nat.testBit_or
def sT:=@List.mem_map
def CX:=@Nat.pow_lt_pow_right
def wO:=@Nat.testBit_and
def FG:=@List.length_singleton
def zO:=@Nat.or_lt_two_pow
def EZ:=@List.mem_append_left
def BA:=@List.drop_length
def DH:=@Bool.false_eq_true
def zI:=@List.cons.injEq
def JR:=@List.length_eq_zero_iff
def FU:=@List.map_congr_left
def vO:=@Nat.zero_add
def IR:=@List.length_eq_one_iff
def xC:=@Int.ofNat_inj
def AG:=@Nat.and_le_left
def FA:=@Nat.lt_or_eq_of_le
def uN:=@decide_true
def NS:=@Decidable.byContradiction
def IK:=@Nat.mul_le_mul_right
def vS:=@Nat.zero_le
def IP:=@Int.toNat_of_nonneg
def EF:=@Nat.mod_eq_of_lt
def BG:=@Bool.false_and
def GU:=@List.size_toArray
def KW:=@Nat.eq_of_testBit_eq
def JL:=@List.filter_append
def PE:=@Nat.testBit_lt_two_pow
def EM:=@List.headD_cons
def DW:=@Bool.and_false
def FD:=@Nat.lt_succ_iff
def QL:=@Nat.shiftRight_eq_div_pow
def QW:=@Classical.byContradiction
def GZ:=@List.prefix_refl
def xM:=@Nat.add_mul
def yE:=@Nat.mul_one
def NP:=@List.mem_append_right
def RZ:=@Option.isSome_iff_exists
def IG:=@Classical.not_not
def MQ:=@List.set_append_right
def IB:=@List.pairwise_map
def DU:=@Nat.add_assoc
def ZN:=@List.set_eq_take_append_cons_drop
def HR:=@List.foldl_cons
def GJ:=@Nat.min_eq_left
def HA:=@List.range_succ
def HN:=@List.length_set
def PM:=@List.mem_of_mem_take
def SN:=@ByteArray.size_extract
def NL:=@List.length_pos_iff
def KJ:=@List.length_range
def FI:=@List.map_cons
def QY:=@Nat.le_of_ble_eq_true
def TR:=@List.length_filter_le
def TQ:=@Bool.and_eq_false_iff
def SM:=@List.pairwise_flatMap
def ND:=@Nat.add_sub_cancel
def LS:=@List.getElem_map
def RR:=@List.toList_toArray
def UC:=@Nat.eq_of_beq_eq_true
def XN:=@List.take_append_drop
def LA:=@List.take_zero
def Dc:=@List.pairwise_iff_getElem
def OT:=@Option.map_some
def ZZ:=@List.Sublist.append_left
def RN:=@Array.size_append
def SS:=@Int.lt_trichotomy
def OG:=@List.mem_filter
def QS:=@List.count_append
def Mm:=@List.eq_nil_iff_forall_not_mem
def JY:=@Nat.add_zero
def GL:=@Nat.one_mul
def KF:=@Bool.true_and
def XP:=@List.mem_map_of_mem
def Cs:=@Int.eq_ofNat_of_zero_le
def Kq:=@List.drop_append_of_le_length
def GA:=@Array.ext'
def Cn:=@List.sublist_cons_self
def Cm:=@List.getElem_cons_zero
def Cx:=@List.length_pos_of_mem
def Bg:=@List.drop_eq_nil_of_le
def VI:=@List.mem_filterMap
def YC:=@Nat.one_le_two_pow
def WR:=@Bool.not_eq_false'
def SF:=@List.take_left'
def Bx:=@ByteArray.data_append
def Ez:=@Option.some.inj
def XB:=@Nat.lt_trichotomy
def Ar:=@List.mem_cons_of_mem
def ZC:=@List.pairwise_append
def Ek:=@List.replicate_succ'
def YS:=@List.length_take_le'
def SI:=@List.drop_take
def WZ:=@Bool.not_eq_true
def WP:=@Nat.div_eq_of_lt
def XH:=@List.getElem_set
def Eb:=@List.append_of_mem
def Eo:=@Option.isSome_none
def Dq:=@List.prefix_append
def Af:=@Nat.eq_zero_or_pos
def Kb:=@Nat.add_sub_cancel_left
def Nh:=@List.pairwise_mergeSort
def Iv:=@List.pairwise_lt_range
def Hq:=@List.drop_of_length_le
def Jl:=@List.append_eq_nil_iff
def Ju:=@List.getElem_cons_succ
def Im:=@List.getElem_replicate
def Bt:=@List.take_sublist
def QJ:=@List.map_nil
def Ob:=@List.sizeOf_lt_of_mem
def QI:=@Nat.pow_succ
def Dj:=@Option.bind_some
def ZB:=@Nat.zero_testBit
def XX:=@List.all_cons
def By:=@List.all_append
def Oz:=@List.take_succ_cons
def Jt:=@List.mergeSort_perm
def X1:=@Nat.mod_two_eq_zero_or_one
def Vc:=@Int.fdiv_eq_ediv_of_nonneg
def Ln:=@Nat.and_one_is_mod
def Ja:=@List.mem_replicate
def Jz:=@List.getElem_range
def En:=@List.mapM_cons
def Qo:=@Array.mapM_eq_mapM_toList
def Fg:=@List.drop_drop
def Ss:=@Nat.lt_pow_two_of_testBit
def l5:=@List.ne_nil_of_length_pos
def B8:=@List.elem_eq_true_of_mem
def C0:=@List.mem_of_elem_eq_true
def Pc:=@Option.mem_toList
def Tt:=@Array.size_setIfInBounds
def Ly:=@List.all_eq_false
def Om:=@List.foldl_append
def Xy:=@List.set_eq_of_length_le
def Ao:=@List.sum_cons
def N6:=@Option.bind_eq_some_iff
def Gb:=@List.nodup_range
def Yj:=@Array.size_eq_zero_iff
def U4:=@List.filter_eq_nil_iff
def P5:=@List.Pairwise.sublist
def Qs:=@Nat.ble_eq_true_of_le
def Io:=@Nat.div_le_self
def n9:=@List.set_getElem_self
def Ac:=@Int.ofNat_lt
def Yo:=@List.pairwise_and_iff
def Fv:=@Int.le_refl
def Be:=@Nat.mul_pos
def Mr:=@Bool.false_or
def Ip:=@Bool.and_self
def Hh:=@Nat.sub_self
def Hp:=@List.map_set
namespace Go.Sh
open Go.RowKit (Below)
variable {i:Nat}
abbrev cW:=Nat->vL
abbrev aB(w w':wD):Prop:=Below w.heap.size w w'
def aB.refl(w:wD):aB w w:=Below.refl _ _
def aC:=@aB.refl
def z0(n:Nat):0<=n:=vS n
def lr(n:Nat):n<=n:=iD n
def tk{α:Type _}{l:List α}(h:i<l.length):l.take (i+1)=l.take i++[l[i]]:=List.take_succ_eq_append_getElem h
def aB.trans{a b c:wD}(h:aB a b)(k:aB b c):aB a c:=Below.trans h (Below.mono k h.size)
def aB.t{a b c:wD}(h:aB a b)(k:aB b c):aB a c:=aB.trans h k
theorem xx{a b:wD}(h:aB a b:=by repeat (first | assumption | exact aB.refl _ | refine aB.trans (by assumption) ?_)):aB a b:=h
def ev(s:cW):Operand->vL
 |.tmp t=>s t
 |.const v=>v
 |.global g=>pT g 0
 |.func f=>.func (.func f) #[] #[]
def upd(s:cW)(d:Nat)(v:vL):cW:=λt=>bif Nat.beq t d then v else s t
def put(s:cW)(d:Option Nat)(v:vL):cW:=match d with|some d=>upd s d v|none=>s
def nth{α:Type}:List α->Nat->Option α
 |[],_=>none
 |x :: _,0=>some x
 |_ :: l,n+1=>nth l n
def OV(l:List vL)(t:Nat):vL:=match nth l t with|some v=>v|none=>undef
def lN(m t:Nat):Bool:=Nat.beq (Nat.land 1 (Nat.shiftRight m t)) 1
def mix(m:Nat)(s u:cW):cW:=λt=>bif lN m t then u t else s t
def BR(v:vL)(kt kf:Prop):Prop:=match v with|.bool true=>kt|.bool false=>kf|_=>False
def AV(v:vL)(kt kf ks:Prop):Prop:=match v with|.bool true=>kt|.bool false=>kf|.tuple a=>(bif Nat.beq a.size 0 then ks else False)|_=>False
inductive RD(P:pG)(m:Sem vL)(w:wD)(K:vL->Prop):Prop
 |mk (v:vL) (h:∀w',aB w w'->m.run P w'=.ok v w') (k:K v):RD P m w K
structure eR(X:Nat->Prop)(w w':wD):Prop where
 os:w'.os=w.os
 tape:w'.tape=w.tape
 output:w'.output=w.output
 size:w.heap.size<=w'.heap.size
 block:∀b,b<w.heap.size->¬X b->w'.heap[b]?=w.heap[b]?
structure Xt where
 l:List Nat
 X:Option (Nat->Prop)
def Xt.rel(x:Xt)(w w':wD):Prop:=match x.X with|none=>aB w w'|some X=>eR X w w'
inductive lH(P:pG)(X:Nat->Prop)(m:Sem vL)(w:wD)(K:vL->Prop):Prop
 |mk (v:vL) (h:∀w',eR X w w'->m.run P w'=.ok v w') (k:K v):lH P X m w K
inductive OP(P:pG)(m:Sem vL)(w:wD)(K:vL->wD->Prop):Prop
 |mk (v:vL) (w':wD) (h:m.run P w=.ok v w') (k:K v w'):OP P m w K
inductive fA(P:pG)(m:Sem Unit)(w:wD)(K:wD->Prop):Prop
 |mk (w':wD) (h:m.run P w=.ok () w') (k:K w'):fA P m w K
inductive aJ(P:pG)(f:FuncId)(args:List vL)(w:wD)(K:vL->wD->Prop):Prop
 |mk (h:Calls P f args.toArray w λe w'=>∃v,e=.returned v/\K v w'):aJ P f args w K
inductive AR(P:pG)(m:Sem Next)(w:wD)(K:vL->wD->Prop):Prop
 |value (v:vL) (w':wD) (h:m.run P w=.ok (.value v) w') (k:K v w'):AR P m w K
 |skip (w':wD) (h:m.run P w=.ok .skip w') (k:K undef w'):AR P m w K
 |enter (f:FuncId) (args:Array vL) (w':wD) (h:m.run P w=.ok (.enter f args) w') (k:Calls P f args w' λe w''=>∃v,e=.returned v/\K v w''):AR P m w K
 |row (r:String) (args:Array vL) (w':wD) (h:m.run P w=.ok (.row r args) w') (k:Go.Rows P r args w' K):AR P m w K
def YD:vL->Bool
 |.pointer (some _)=>true
 |.iface _ _=>true
 |.func (.func _) _ _=>true
 |_=>false
inductive bZ(v:vL)(k:Prop):Prop
 |mk (h:YD v=true) (hk:k):bZ v k
inductive iB(L:List Nat)(init:List vL)(w:wD)(body:cW->wD->(List vL->wD->Prop)->Prop):Prop
 |mk (I:Nat->List vL->wD->Prop) (m:Nat) (h0:I m init w)
     (hr:∀m u w',I m (L.map u) w'->body u w' (λus w''=>∃m',m'<m/\I m' us w'')):iB L init w body
inductive dJ(L:List Nat)(body:(List vL->wD->Prop)->Prop)(rest:cW->wD->Prop):Prop
 |mk (J:List vL->wD->Prop) (hb:body J) (hr:∀u w',J (L.map u) w'->rest u w'):dJ L body rest
def PB:Operand->Operand
 |.const _=>.const undef
 |_=>.tmp 0
def bin(op:BinOp)(t:TypeId)(x y:Operand)(a b:vL):Sem vL:=do eqGuard op t x y a b;binOp op t a b
def LK(f:vL)(args:List vL):Sem Next:=do let d <-Deferred.ofValue f args.toArray;invoke d.target d.args
def Pt(r:vL)(m:String)(args:List vL):Sem Next:=invoke (.fn (.method m) #[]) (#[r]++args.toArray)
def prs(s:Operand->vL):List (Nat×Operand)->List (Nat×vL)
 |[]=>[]
 |(i,x) :: r=>(i,s x) :: prs s r
structure Cfg where
 ext:List Nat
 joins:List (Nat×Nat×List Nat)
 loops:List (Nat×Nat×List Nat)
 draws:List (Nat×List Nat×Nat)
 pars:List (Nat×Nat×Nat):=[]
 xs:List Nat:=[]
 gpars:List (Nat×Nat):=[]
def find{α:Type}:List (Nat×α)->Nat->Option α
 |[],_=>none
 |(k,a) :: r,n=>bif Nat.beq k n then some a else find r n
def pI(o:Oper)(ρ:Operand->vL):Option (Sem vL):=
 match o.op with
 |.build t ps=>some (Instr.build t (prs ρ ps.toList).toArray)
 |.load t a=>some (Instr.loadAt t (ρ a))
 |.binOp op t x y _=>some (bin op t (PB x) (PB y) (ρ x) (ρ y))
 |.unOp op _ x=>some (Op.unary op (ρ x))
 |.convert a b x=>some (convert a b (ρ x))
 |.makeInterface t x=>some (Instr.makeInterface t (ρ x))
 |.makeFunc fn first captured=>some (Instr.makeFunc fn (first.toList.map ρ).toArray (captured.toList.map ρ).toArray)
 |.slice t x lo hi mx=>some (Instr.sliceAt t (ρ x) (lo.map ρ) (hi.map ρ) (mx.map ρ))
 |.fieldAddr t x f=>some (Instr.fieldAt t (ρ x) f)
 |.field t x f=>some (Instr.field t (ρ x) f)
 |.indexAddr t x i=>some (Instr.indexAt t (ρ x) (ρ i))
 |.index t x i=>some (Instr.index t (ρ x) (ρ i))
 |.lookup t m k ok=>some (Instr.lookup t (ρ m) (ρ k) ok)
 |.extract t i=>some (Instr.extract (ρ t) i)
 |.typeAssert x t u ok=>some (Instr.typeAssert (ρ x) t u ok)
 |.call { callee:=.builtin .len,args,argTypes }=>some (Builtin.len_ argTypes o.type (args.toList.map ρ).toArray)
 |.call { callee:=.builtin .cap,args,argTypes }=>some (Builtin.cap_ argTypes o.type (args.toList.map ρ).toArray)
 |.call { callee:=.builtin .min,args,argTypes }=>some (Builtin.min_ argTypes o.type (args.toList.map ρ).toArray)
 |.call { callee:=.builtin .max,args,argTypes }=>some (Builtin.max_ argTypes o.type (args.toList.map ρ).toArray)
 |_=>none
def dP(P:pG)(ext:Xt)(o:Oper)(ρ:Operand->vL)(w:wD)(K:vL->wD->Prop):Prop:=
 match o.op with
 |.move x=>K (ρ x) w
 |.assign x=>K (ρ x) w
 |.pick c a b=>BR (ρ c) (K (ρ a) w) (K (ρ b) w)
 |.nilCheck x=>bZ (ρ x) (K (ρ x) w)
 |.alloc e=>OP P (Instr.alloc e true (.tuple #[])) w K
 |.box e x=>OP P (Instr.box e (ρ x)) w K
 |.buildSlice t n ps=>OP P (Instr.buildSlice t n (prs ρ ps.toList).toArray) w K
 |.store t a x=>fA P (Instr.storeAt t (ρ a) (ρ x)) w (K undef)
 |.makeMap t r=>OP P (Instr.makeMap t (r.map ρ)) w K
 |.makeSlice t l c=>OP P (Instr.makeSlice t (ρ l) (ρ c)) w K
 |.mapUpdate t m k x=>fA P (Instr.mapUpdate t (ρ m) (ρ k) (ρ x)) w (K undef)
 |.insert t m k x=>fA P (Instr.mapUpdate t (ρ m) (ρ k) (ρ x)) w (K undef)
 |.mapEntry t m k=>OP P (Instr.mapEntry t (ρ m) (ρ k)) w K
 |.entryStore t m k x=>fA P (Instr.entryStore t (ρ m) (ρ k) (ρ x)) w (K undef)
 |.range t x=>OP P (Instr.range t (ρ x)) w K
 |.next it b=>OP P (Instr.next (ρ it) b o.type) w K
 |.entry it=>OP P (Instr.entry (ρ it)) w K
 |.call { callee:=.value (.func f),args,.. }=>bif ext.l.elem f then AR P (callFunc f (args.toList.map ρ).toArray) w K else aJ P f (args.toList.map ρ) w K
 |.call { callee:=.value x,args,.. }=>AR P (LK (ρ x) (args.toList.map ρ)) w K
 |.call { callee:=.invoke r m,args,.. }=>AR P (Pt (ρ r) m (args.toList.map ρ)) w K
 |.call { callee:=.builtin .append,args,argTypes }=>OP P (Builtin.append_ argTypes o.type (args.toList.map ρ).toArray) w K
 |.call { callee:=.builtin .copy,args,argTypes }=>OP P (Builtin.copy_ argTypes o.type (args.toList.map ρ).toArray) w K
 |.call { callee:=.builtin .delete,args,argTypes }=>OP P (Builtin.delete_ argTypes o.type (args.toList.map ρ).toArray) w K
 |.call { callee:=.builtin .clear,args,argTypes }=>OP P (Builtin.clear_ argTypes o.type (args.toList.map ρ).toArray) w K
 | _=>match pI o ρ with
   |some m=>(match ext.X with|none=>RD P m w (λv=>K v w)|some X=>lH P X m w (λv=>K v w))
   |none=>False
def qS(P:pG)(ext:Xt)(o:Oper)(flag:Bool)(s:cW)(w:wD)(K:cW->wD->Prop):Prop:=
 dP P ext o (ev s) w (λv w'=>bif flag then(match ext.X with|none=>aB w w'|some X=>eR X w w')/\K (put s o.dst v) w' else K (put s o.dst v) w')
def uA(P:pG)(ext:Xt)(ol:List Oper)(fl:Nat)(i:Nat)(s:cW)(w:wD)(K:cW->wD->Prop):Prop:=
 match nth ol i with
 |none=>False
 | some o=>
   match o.guard with
   |none=>qS P ext o (lN fl i) s w K
   | some (j,want)=>
     match (nth ol j).bind (·.dst)with
     |none=>False
     | some d=>match (nth ol j).bind (·.guard)with
       | none=>BR (s d)
         (bif want then qS P ext o (lN fl i) (upd s d (.bool true)) w K else K (put (upd s d (.bool true)) o.dst undef) w)
         (bif want then K (put (upd s d (.bool false)) o.dst undef) w else qS P ext o (lN fl i) (upd s d (.bool false)) w K)
       | some _=>AV (s d)
         (bif want then qS P ext o (lN fl i) (upd s d (.bool true)) w K else K (put (upd s d (.bool true)) o.dst undef) w)
         (bif want then K (put (upd s d (.bool false)) o.dst undef) w else qS P ext o (lN fl i) (upd s d (.bool false)) w K)
         (K (put (upd s d undef) o.dst undef) w)
def rV(P:pG)(ext:Xt)(ol:List Oper)(fl:Nat)(K:cW->wD->Prop):List Nat->cW->wD->Prop
 |[],s,w=>K s w
 |i :: r,s,w=>uA P ext ol fl i s w (rV P ext ol fl K r)
def IV(l:List Nat)(lo hi:Nat)(T:Nat->Nat×Nat):Prop:=(∀i∈l,lo<=(T i).1/\(T i).1<=(T i).2/\(T i).2<=hi)/\∀i∈l,∀j∈l,i≠j->(T i).2<=(T j).1\/(T j).2<=(T i).1
def tC(T:Nat->Nat×Nat)(d:Nat)(x:Nat×Nat):Nat->Nat×Nat:=λt=>bif Nat.beq t d then x else T t
def yY{α:Type}(l:List (List α))(i:Nat):List α:=match nth l i with|some x=>x|none=>[]
abbrev iE:=Nat->cW->(Nat->Nat×Nat)->wD->Prop
inductive VF(w:wD)(deps:List (List (Nat×Nat)))(steps fin:iE->Prop):Prop
 |mk (Q:iE) (st:∀i u u' T T' w1 w2,aB w w1->aB w1 w2->(∀p∈yY deps i,u' p.2=u p.2/\T' p.1=T p.1)->Q i u T w1->Q i u' T' w2) (h1:steps Q) (h2:fin Q):VF w deps steps fin
def HO(ol:List Oper)(j:Nat):Nat:=match (nth ol j).bind (·.dst)with|some d=>d|none=>0
def CJ:List Edge->List Nat
 |[]=>[]
 |e :: r=>bif Region.binds .any e then e.on :: CJ r else CJ r
def NF(ol:List Oper):List Edge->List (Nat×Nat)
 |[]=>[]
 |e :: r=>bif Region.binds .any e then(e.on,HO ol e.on) :: NF ol r else NF ol r
def GV(ol:List Oper):Nat->List Oper->List (List (Nat×Nat))
 |_,[]=>[]
 |i,o :: r=>((i,HO ol i) :: NF ol o.after.toList) :: GV ol (i+1) r
def NO(Q:iE)(u:cW)(T:Nat->Nat×Nat)(w:wD):List Edge->Prop
 |[]=>True
 |e :: r=>bif Region.binds .any e then Q e.on u T w/\NO Q u T w r else NO Q u T w r
def NJ(P:pG)(ext:Xt)(ol:List Oper)(m:Nat)(s:cW)(w:wD)(Q:iE):Nat->List Oper->Prop
 |_,[]=>True
 |i,o :: r=>(∀(u:cW)(T:Nat->Nat×Nat)(w1:wD),aB w w1->IV (CJ o.after.toList) w.heap.size w1.heap.size T->NO Q u T w1 o.after.toList ->
     dP P ext o (ev (mix m s u)) w1 (λv w2=>aB w1 w2/\Q i (upd u (HO ol i) v) (tC T i (w1.heap.size,w2.heap.size)) w2))/\NJ P ext ol m s w Q (i+1) r
def KK(Q:iE)(u:cW)(T:Nat->Nat×Nat)(w:wD):Nat->Nat->Prop
 |_,0=>True
 |i,n+1=>Q i u T w/\KK Q u T w (i+1) n
def Cp(P:pG)(ext:Xt)(ol:List Oper)(m p:Nat)(s:cW)(w:wD)(K:cW->wD->Prop):Prop:=
 VF w (GV ol 0 (ol.take p)) (λQ=>NJ P ext ol m s w Q 0 (ol.take p))
   (λQ=>∀(u:cW)(T:Nat->Nat×Nat)(w1:wD),aB w w1->IV (List.range p) w.heap.size w1.heap.size T->KK Q u T w1 0 p->rV P ext ol 0 K ((List.range ol.length).drop p) (mix m s u) w1)
inductive FZ(w:wD)(deps:List (List (Nat×Nat)))(steps:(wD->Prop)->(Nat->wD->wD->Prop)->iE->Prop)(fin:(wD->Prop)->iE->Prop):Prop
 |mk (B:wD->Prop) (R:Nat->wD->wD->Prop) (Q:iE) (hb:B w) (bs:∀j w1 w2,B w1->R j w1 w2->B w2) (sz:∀j w1 w2,R j w1 w2->w1.heap.size<=w2.heap.size)
     (st:∀i j u u' T T' w1 w2,i≠j->B w1->R j w1 w2->(∀p∈yY deps i,u' p.2=u p.2/\T' p.1=T p.1)->Q i u T w1->Q i u' T' w2) (h1:steps B R Q) (h2:fin B Q):FZ w deps steps fin
def XU(ol:List Oper)(j:Nat):List (Nat×Nat):=match (nth ol j).bind (·.dst)with|some d=>[(j,d)]|none=>[]
def NI(ol:List Oper):List Edge->List (Nat×Nat)
 |[]=>[]
 |e :: r=>bif Region.binds .any e then XU ol e.on++NI ol r else NI ol r
def JI(ol:List Oper):Nat->List Oper->List (List (Nat×Nat))
 |_,[]=>[]
 |i,o :: r=>(XU ol i++NI ol o.after.toList) :: JI ol (i+1) r
def IT(i:Nat):List Edge->Bool
 |[]=>false
 |e :: r=>bif Region.binds .any e then(bif Nat.beq e.on i then true else IT i r)else IT i r
def Se(s u:cW)(k:Prop):Option Nat->Prop
 |some d=>u d=s d/\k
 |none=>k
def MM(s u:cW)(i:Nat):List Oper->Prop
 |[]=>True
 |o :: r=>bif IT i o.after.toList then Se s u (MM s u i r) o.dst else MM s u i r
def PF(Q:iE)(u:cW)(T:Nat->Nat×Nat)(w:wD)(E:Prop):List Edge->Prop
 |[]=>E
 |e :: r=>bif Region.binds .any e then Q e.on u T w/\PF Q u T w E r else PF Q u T w E r
def PR(P:pG)(ext:Xt)(ol:List Oper)(m:Nat)(s:cW)(w:wD)(B:wD->Prop)(R:Nat->wD->wD->Prop)(Q:iE):Nat->List Oper->Prop
 |_,[]=>True
 |i,o :: r=>(∀(u:cW)(T:Nat->Nat×Nat)(w1:wD),B w1->w.heap.size<=w1.heap.size->IV (CJ o.after.toList) w.heap.size w1.heap.size T->PF Q u T w1 (MM s u i ol) o.after.toList ->
     dP P ext o (ev (mix m s u)) w1 (λv w2=>R i w1 w2/\Q i (put u o.dst v) (tC T i (w1.heap.size,w2.heap.size)) w2))/\PR P ext ol m s w B R Q (i+1) r
def Aq(P:pG)(ext:Xt)(ol:List Oper)(m:Nat)(s:cW)(w:wD)(K:cW->wD->Prop):Prop:=
 FZ w (JI ol 0 ol) (λB R Q=>PR P ext ol m s w B R Q 0 ol)
   (λB Q=>∀(u:cW)(T:Nat->Nat×Nat)(w1:wD),B w1->w.heap.size<=w1.heap.size->IV (List.range ol.length) w.heap.size w1.heap.size T->KK Q u T w1 0 ol.length->K (mix m s u) w1)
inductive XR(body:(Nat->Prop)->Prop):Prop
 |mk (X:Nat->Prop) (h:body X):XR body
def lit(s:cW)(c:Operand)(b:Bool):cW:=match c with|.tmp t=>upd s t (.bool b)|_=>s
def qA:Code->Option Nat
 |.region id _ _=>some id
 |.seq a b=>match qA a with|some i=>some i|none=>qA b
 |.block _ c=>qA c
 |.loop c=>qA c
 |_=>none
def DK(K:Exit->cW->wD->Prop)(N:cW->wD->Prop):Exit->cW->wD->Prop
 |.normal,s,w=>N s w
 |e,s,w=>K e s w
def PG(id:Nat)(K:Exit->cW->wD->Prop):Exit->cW->wD->Prop
 |.exit j,s,w=>bif Nat.beq j id then K .normal s w else K (.exit j) s w
 |e,s,w=>K e s w
def World.drew1(w:wD):wD:={ w with drawn:=w.drawn+1 }
def vc(P:pG)(g:Cfg):Code->cW->wD->(Exit->cW->wD->Prop)->Prop
 |.skip,s,w,K=>K .normal s w
 |.region _ ops false,s,w,K=>rV P ⟨g.ext,none⟩ ops.toList 0 (K .normal) (List.range ops.size) s w
 | .region id ops true,s,w,K=>
   match find g.gpars id with
   |some m=>Aq P ⟨g.ext,none⟩ ops.toList m s (World.drew1 w) (K .normal)
   |none=>
   match find g.pars id with
   |some (m,p)=>Cp P ⟨g.ext,none⟩ ops.toList m p s (World.drew1 w) (K .normal)
   | none=>
     match find g.draws id with
     |some (l,fl)=>bif g.xs.elem id then XR (λX=>rV P ⟨g.ext,some X⟩ ops.toList fl (K .normal) l s (World.drew1 w))else rV P ⟨g.ext,none⟩ ops.toList fl (K .normal) l s (World.drew1 w)
     |none=>False
 | .seq a b,s,w,K=>
   match (qA b).bind (find g.joins)with
   |some (m,L)=>dJ L (λJ=>vc P g a s w (DK K λs' w'=>J (L.map s') w')) (λu w'=>vc P g b (mix m s u) w' K)
   |none=>vc P g a s w (DK K λs' w'=>vc P g b s' w' K)
 |.cond c x y,s,w,K=>BR (ev s c) (vc P g x (lit s c true) w K) (vc P g y (lit s c false) w K)
 |.block id c,s,w,K=>vc P g c s w (PG id K)
 | .loop c,s,w,K=>
   match (qA c).bind (find g.loops)with
   |some (m,L)=>iB L (L.map s) w λu w' next=>vc P g c (mix m s u) w' (DK K λs' w''=>next (L.map s') w'')
   |none=>False
 |.exit id,s,w,K=>K (.exit id) s w
 |.ret,s,w,K=>K .ret s w
 |_,_,_,_=>False
def qP(t:TypeId)(v:vL):Sem vL:=do loadVar t (<-asAddr v)
def zA(P:pG)(s:cW)(w:wD):List ResultVar->(List vL->Prop)->Prop
 |[],k=>k []
 |.tmp t :: r,k=>zA P s w r λvs=>k (s t :: vs)
 |.cell a t :: r,k=>RD P (qP t (s a)) w λv=>zA P s w r λvs=>k (v :: vs)
def one:List vL->vL
 |[v]=>v
 |vs=>.tuple vs.toArray
def UY(P:pG)(rs:List ResultVar)(R:vL->wD->Prop):Exit->cW->wD->Prop
 |.normal,s,w=>zA P s w rs λvs=>R (one vs) w
 |.ret,s,w=>zA P s w rs λvs=>R (one vs) w
 |_,_,_=>False
def Ag(P:pG)(g:Cfg)(fn:Func)(args:List vL)(w:wD)(R:vL->wD->Prop):Prop:=
 match fn.body with
 |some c=>vc P g c (OV args) w (UY P fn.results.toList R)
 |none=>False
end Go.Sh
namespace Go.Sh
open Go.RowKit (Below)
variable {K:vL->Prop}{P:pG}{d:Nat}{v:vL}{w w':wD}
def fS(a:Act):cW:=λt=>a.tmps.getD t undef
def Ra(a:Act):ev (fS a)=a.eval:=by funext x;cases x<;>rfl
theorem HL{α:Type}(l:List α)(i:Nat):nth l i=l[i]?:=by
 induction l generalizing i with
 |nil=>cases i<;>rfl
 |cons x l ih=>cases i<;>simp[nth,ih]
def zC{α:Type}(l:Array α)(i:Nat):nth l.toList i=l[i]?:=by rw[HL];simp
def QC(s:cW)(d:Nat)(v:vL):upd s d v d=v:=by simp[upd]
def AP(s:cW){d t:Nat}(v:vL)(h:t≠d):upd s d v t=s t:=by
 have:Nat.beq t d=false:=by rw[Bool.eq_false_iff];exactλe=>h (UC e)
 simp[upd,this]
def MI{s:cW}(h:s d=v):upd s d v=s:=by
 funext t;by_cases e:t=d
 ·subst e;rw[QC,h]
 rw[AP _ _ e]
def zBt(s:cW){d e:Nat}(v u:vL)(h:d≠e):upd (upd s d v) e u=upd (upd s e u) d v:=by
 funext t;by_cases h1:t=d
 ·subst h1;rw[QC,AP _ _ h,QC]
 by_cases h2:t=e
 ·subst h2;rw[QC,AP _ _ h1,QC]
 rw[AP _ _ h2,AP _ _ h1,AP _ _ h1,AP _ _ h2]
theorem kx(s:cW){x y:Option Nat}(v u:vL)(h:∀ d,x=some d->y≠some d):put (put s x v) y u=put (put s y u) x v:=by
 cases x with
 |none=>rfl
 | some d=>
   cases y with
   |none=>rfl
   |some e=>exact zBt s v u (λhe=>h d rfl (he▸rfl))
theorem Kc{s:cW}{x:Option Nat}{t:Nat}(h:∀ d,x=some d->t≠d):put s x v t=s t:=by
 cases x with
 |none=>rfl
 |some d=>exact AP _ _ (h d rfl)
theorem zxI{a:Act}{d:Option Nat}(h:∀ t,d=some t->t<a.tmps.size):fS (a.put d v)=put (fS a) d v:=by
 cases d with
 |none=>rfl
 | some d=>
   funext t;have hd:=h d rfl;by_cases e:t=d
   ·subst e;simp[fS,Act.put,put,QC,hd]
   simp only[put];rw[AP _ _ e];simp[fS,Act.put,Array.getElem?_setIfInBounds_ne (Ne.symm e)]
def px(a:Act)(d:Option Nat)(v:vL):(a.put d v).tmps.size=a.tmps.size:=by cases d<;>simp[Act.put]
def qh(a:Act)(d:Option Nat)(v:vL):(a.put d v).defers=a.defers:=by cases d<;>rfl
def QT(m t:Nat):lN m t=m.testBit t:=by
 unfold lN Nat.testBit;show Nat.beq (1 &&& (m >>> t)) 1=(1 &&& (m >>> t) != 0);have h:(1 &&& (m >>> t))=(m >>> t)%2:=by rw[Nat.and_comm];exact Ln _
 rw[h];rcases X1 (m >>> t)with h2|h2<;>rw[h2]<;>rfl
def VQ(v:vL)(kt kf:Prop):BR v kt kf↔∃b,v=.bool b/\(if b then kt else kf):=by
 constructor
 ·intro h;cases v with
  |bool b=>exact⟨b,rfl,by cases b<;>exact h⟩
  |_=>exact h.elim
 rintro⟨b,rfl,h⟩;cases b<;>exact h
def Qu(ρ:Operand->vL)(ps:Array (Nat×Operand)):(prs ρ ps.toList).toArray=ps.map λ(i,x)=>(i,ρ x):=by
 have:∀l:List (Nat×Operand),prs ρ l=l.map λ(i,x)=>(i,ρ x):=by
   intro l
   induction l with
   |nil=>rfl
   |cons p l ih=>obtain⟨i,x⟩:=p;simp[prs,ih]
 rw[this];apply GA;simp
def DQ(ρ:Operand->vL)(xs:Array Operand):(xs.toList.map ρ).toArray=xs.map ρ:=by
 apply GA;simp
def zsX(op:BinOp)(t:TypeId)(x y:Operand)(a b:vL):eqGuard op t (PB x) (PB y) a b=eqGuard op t x y a b:=by
 cases x<;>cases y<;>rfl
def Lj{m:Sem vL}(h:m.run P w=.ok v w'):(do pure (Next.value (<-m)):Sem Next).run P w=.ok (.value v) w':=by
 simp[h]
def zIa{m:Sem Unit}(h:m.run P w=.ok () w'):(do m;pure Next.skip:Sem Next).run P w=.ok .skip w':=by
 simp[h]
def ww{o:Oper}{ρ:Operand->vL}{m:Sem vL}(hm:pI o ρ=some m)(h:m.run P w=.ok v w') :
   (execOp ρ o).run P w=.ok (.value v) w':=by
 obtain⟨_,op,_,_,_,_⟩:=o;cases op<;>simp only[pI]at hm
 case call c=>
   obtain⟨callee,_,_⟩:=c;cases callee with
   |value f=>simp at hm
   |invoke r m=>simp at hm
   | builtin b=>
     cases b<;>simp only[iU,reduceCtorEq]at hm<;>subst hm<;>rw[DQ]at h <;>
       simp only[execOp,resolve,invoke,builtin,Sem.run_bind,Sem.run_pure,Result.andThen_ok]<;>simp[h]
 all_goals first
   |(simp at hm;done)
   |(simp only[iU]at hm;subst hm;exact Lj h)
   |(simp only[iU]at hm;subst hm;simp only[Qu,DQ,zsX,bin]at h;exact Lj h)
def xT(P:pG)(f:Nat):Bool:=
 match P.funcs[f]? with
 |some fn=>!(fn.name == "runtime.NumGoroutine")&&fn.body.isSome
 |none=>false
def eR.refl(X:Nat->Prop)(w:wD):eR X w w:=⟨rfl,rfl,rfl,lr _,λ_ _ _=>rfl⟩
def eR.trans{X:Nat->Prop}{a b c:wD}(h:eR X a b)(k:eR X b c):eR X a c:=
 ⟨k.os.trans h.os,k.tape.trans h.tape,k.output.trans h.output,eH h.size k.size,λi hi hX=>(k.block i (kP hi h.size) hX).trans (h.block i hi hX)⟩
def Xt.rel_refl(x:Xt)(w:wD):x.rel w w:=by
 unfold Xt.rel;split
 ·exact aC w
 exact eR.refl _ w
def Xt.rel_trans(x:Xt){a b c:wD}(h:x.rel a b)(k:x.rel b c):x.rel a c:=by
 unfold Xt.rel at *;split at h
 ·rename_i hX;simp only[hX]at k ⊢;exact aB.trans h k
 rename_i X hX;simp only[hX]at k ⊢;exact eR.trans h k
theorem rW{x:Xt}{m:Sem vL}:(match x.X with|none=>RD P m w K|some X=>lH P X m w K)↔∃v,(∀w',x.rel w w'->m.run P w'=.ok v w')/\K v:=by
 unfold Xt.rel;cases x.X with
 |none=>exact⟨λ⟨v,h,k⟩=>⟨v,h,k⟩,λ⟨v,h,k⟩=>⟨v,h,k⟩⟩
 |some X=>exact⟨λ⟨v,h,k⟩=>⟨v,h,k⟩,λ⟨v,h,k⟩=>⟨v,h,k⟩⟩
def YP(ext:List Nat)(N:Nat)(o:Oper):Bool:=
 match o.op with
 |.call { callee:=.value (.func f),.. }=>ext.elem f || Nat.blt f N
 |_=>true
theorem XM{P:pG}{f:Nat}(h:xT P f=true)(args:Array vL)(w:wD):(callFunc f args).run P w=.ok (.enter f args) w:=by
 unfold xT at h;cases hf:P.funcs[f]? with
 |none=>simp[hf]at h
 | some fn=>
   simp only[hf,iA,xX]at h;have hn:¬fn.name = "runtime.NumGoroutine" := by simpa using h.1
   have hb:¬fn.body=none:=by intro hb;simp[hb]at h
   unfold callFunc;simp[program,Sem.run,hf,hn,hb]
section
variable {P:pG}{ext:Xt}{N:Nat}(hE:∀ f,f<N->ext.l.elem f=false->xT P f=true)
def Qa{o:Oper}{a:Act}{K:vL->wD->Prop}{Q:Exit->Act->wD->Prop}{f:FuncId}{args:Array vL}{w:wD}
   (h:Calls P f args w λe w'=>∃v,e=.returned v/\K v w') :
   o.upon P a (λa' w'=>∃v,a'=a.put o.dst v/\K v w') Q (.ok (.enter f args) w):=by
 rw[Oper.upon_enter];exact h.mono λe w' ⟨v,he,hk⟩=>by subst he;exact⟨v,rfl,hk⟩
theorem VU{o:Oper}{a:Act}{K:vL->wD->Prop}{Q:Exit->Act->wD->Prop}{m:Sem Next}{w:wD}(h:AR P m w K) :
   o.upon P a (λa' w'=>∃v,a'=a.put o.dst v/\K v w') Q (m.run P w):=by
 cases h with
 |value v w' hr k=>rw[hr];exact⟨v,rfl,k⟩
 |skip w' hr k=>rw[hr];exact⟨undef,rfl,k⟩
 |enter f args w' hr k=>rw[hr];exact Qa k
 |row r args w' hr k=>rw[hr,Oper.upon_row];exact k.mono λv _ hk=>⟨v,rfl,hk⟩
include hE in
def re{o:Oper}{a:Act}{w:wD}{K:vL->wD->Prop}{Q:Exit->Act->wD->Prop}(hc:YP ext.l N o=true)
   (h:dP P ext o a.eval w K):o.wp P a w (λa' w'=>∃v,a'=a.put o.dst v/\K v w') Q:=by
 unfold Oper.wp;obtain⟨dst,op,M,pos,C,D⟩:=o
 have rd:∀{m:Sem vL},pI ⟨dst,op,M,pos,C,D⟩ a.eval=some m->(match ext.X with|none=>RD P m w (λv=>K v w)|some X=>lH P X m w (λv=>K v w)) ->
     (Oper.mk dst op M pos C D).upon P a (λa' w'=>∃v,a'=a.put dst v/\K v w') Q ((execOp a.eval ⟨dst,op,M,pos,C,D⟩).run P w):=by
   intro m hm hr;obtain⟨v,hv,k⟩:=rW.1 hr;rw[ww hm (hv w (ext.rel_refl w))];exact⟨v,rfl,k⟩
 have O:∀{m:Sem vL},OP P m w K->(execOp a.eval ⟨dst,op,M,pos,C,D⟩=(do pure (Next.value (<-m)):Sem Next)) ->
     (Oper.mk dst op M pos C D).upon P a (λa' w'=>∃v,a'=a.put dst v/\K v w') Q ((execOp a.eval ⟨dst,op,M,pos,C,D⟩).run P w):=by
   intro m ho he;obtain⟨v,w',hr,k⟩:=ho;rw[he,Lj hr];exact⟨v,rfl,k⟩
 have g0:∀{m:Sem Unit},fA P m w (K undef)->(execOp a.eval ⟨dst,op,M,pos,C,D⟩=(do m;pure Next.skip:Sem Next)) ->
     (Oper.mk dst op M pos C D).upon P a (λa' w'=>∃v,a'=a.put dst v/\K v w') Q ((execOp a.eval ⟨dst,op,M,pos,C,D⟩).run P w):=by
   intro m ho he;obtain⟨w',hr,k⟩:=ho;rw[he,zIa hr];exact⟨undef,rfl,k⟩
 cases op
 case move x=>exact⟨_,rfl,h⟩
 case assign x=>exact⟨_,rfl,h⟩
 case pick c x y=>
   simp only[dP,VQ]at h;obtain⟨b,hb,h⟩:=h;simp only[execOp,hb,asBool];cases b<;>exact⟨_,rfl,h⟩
 case nilCheck x=>
   simp only[dP]at h;obtain⟨hn,k⟩:=h;simp only[execOp];cases hx:a.eval x with
   | pointer p=>cases p with
     |none=>simp[hx,YD]at hn
     |some p=>exact⟨_,rfl,hx▸k⟩
   |iface t v=>exact⟨_,rfl,hx▸k⟩
   | func fn first captured=>cases fn with
     |func f=>exact⟨_,rfl,hx▸k⟩
     |_=>simp[hx,YD]at hn
   |_=>simp[hx,YD]at hn
 case alloc e=>exact O h rfl
 case box e x=>exact O h rfl
 case buildSlice t n ps=>exact O h (by simp only[execOp,Qu])
 case store t x y=>exact g0 h rfl
 case makeMap t r=>exact O h rfl
 case makeSlice t l c=>exact O h rfl
 case mapUpdate t m k x=>exact g0 h rfl
 case insert t m k x=>exact g0 h rfl
 case mapEntry t m k=>exact O h rfl
 case entryStore t m k x=>exact g0 h rfl
 case range t x=>exact O h rfl
 case next it b=>exact O h rfl
 case entry it=>exact O h rfl
 case call c=>
   obtain⟨callee,args,argTypes⟩:=c;cases callee with
   | value f=>
     cases f with
     | func f=>
       simp only[dP]at h
       have he:(execOp a.eval ⟨dst,.call ⟨.value (.func f),args,argTypes⟩,M,pos,C,D⟩).run P w=(callFunc f (args.map a.eval)).run P w:=by
         simp[execOp,resolve,Act.eval,Deferred.ofValue,invoke]
       rw[he];cases hx:ext.l.elem f with
       |true=>simp only[hx,cond_true,DQ]at h;exact VU h
       | false=>
         simp only[hx,cond_false]at h;obtain⟨h⟩:=h;simp only[YP,hx,Mr]at hc;have g1:f<N:=QY hc;rw[XM (hE f g1 hx)];rw[DQ]at h;exact Qa h
     | tmp t=>
       simp only[dP]at h;have:=VU (o:=⟨dst,.call ⟨.value (.tmp t),args,argTypes⟩,M,pos,C,D⟩) (a:=a) (Q:=Q) h;simpa[execOp,resolve,LK,DQ]using this
     | const v=>
       simp only[dP]at h;have:=VU (o:=⟨dst,.call ⟨.value (.const v),args,argTypes⟩,M,pos,C,D⟩) (a:=a) (Q:=Q) h;simpa[execOp,resolve,LK,DQ]using this
     | global g=>
       simp only[dP]at h;have:=VU (o:=⟨dst,.call ⟨.value (.global g),args,argTypes⟩,M,pos,C,D⟩) (a:=a) (Q:=Q) h;simpa[execOp,resolve,LK,DQ]using this
   | invoke r m=>
     simp only[dP]at h;have:=VU (o:=⟨dst,.call ⟨.invoke r m,args,argTypes⟩,M,pos,C,D⟩) (a:=a) (Q:=Q) h;simpa[execOp,resolve,Pt,DQ]using this
   | builtin b=>
     cases b
     case append=>exact O h (by simp only[execOp,resolve,invoke,builtin,DQ,pure_bind])
     case copy=>exact O h (by simp only[execOp,resolve,invoke,builtin,DQ,pure_bind])
     case delete=>exact O h (by simp only[execOp,resolve,invoke,builtin,DQ,pure_bind])
     case clear=>exact O h (by simp only[execOp,resolve,invoke,builtin,DQ,pure_bind])
     case len=>exact rd rfl h
     case cap=>exact rd rfl h
     case min=>exact rd rfl h
     case max=>exact rd rfl h
     all_goals exact(show False from h).elim
 all_goals first|exact(show False from h).elim|exact rd rfl h
end
end Go.Sh
namespace Go.Sh
open Go.RowKit (Below)
variable {A:List Nat}{K K':vL->Prop}{N fl i j m n:Nat}{P:pG}{v:vL}{w w':wD}
theorem Iw{m:Sem Next}{K K':vL->wD->Prop}(hk:∀ v w',K v w'->K' v w')(h:AR P m w K):AR P m w K':=by
 cases h with
 |value v w' hr k=>exact .value v w' hr (hk _ _ k)
 |skip w' hr k=>exact .skip w' hr (hk _ _ k)
 |enter f args w' hr k=>exact .enter f args w' hr (k.mono λ_ w'' ⟨v,he,h⟩=>⟨v,he,hk _ _ h⟩)
 |row r args w' hr k=>exact .row r args w' hr (k.mono λv w'' h=>hk _ _ h)
def OP.mono{m:Sem vL}{K K':vL->wD->Prop}(h:OP P m w K)(hk:∀ v w',K v w'->K' v w'):OP P m w K':=by
 obtain⟨v,w',hr,k⟩:=h;exact⟨v,w',hr,hk _ _ k⟩
def fA.mono{m:Sem Unit}{K K':wD->Prop}(h:fA P m w K)(hk:∀ w',K w'->K' w'):fA P m w K':=by
 obtain⟨w',hr,k⟩:=h;exact⟨w',hr,hk _ k⟩
def YH.mono{x:Xt}{m:Sem vL}(h:match x.X with|none=>RD P m w K|some X=>lH P X m w K)(hk:∀ v,K v->K' v):(match x.X with|none=>RD P m w K'|some X=>lH P X m w K'):=by
 obtain⟨v,h1,h2⟩:=rW.1 h;exact rW.2 ⟨v,h1,hk v h2⟩
def RD.mono{m:Sem vL}(h:RD P m w K)(hk:∀ v,K v->K' v):RD P m w K':=by
 obtain⟨v,hr,k⟩:=h;exact⟨v,hr,hk _ k⟩
def aJ.mono{f:FuncId}{args:List vL}{K K':vL->wD->Prop}(h:aJ P f args w K)(hk:∀ v w',K v w'->K' v w'):aJ P f args w K':=by
 obtain⟨h⟩:=h;exact⟨h.mono λ_ w' ⟨v,he,k⟩=>⟨v,he,hk _ _ k⟩⟩
theorem aJ.mM{P:pG}{f:FuncId}{l:List vL}{w:wD}{K:vL->wD->Prop}{v:vL}(h:aJ P f l w λr w'=>aB w w'/\r=v)(k:∀w',aB w w'->K v w'):aJ P f l w K:=h.mono λ_ _⟨a,e⟩=>by cases e;exact k _ a
def bZ.mono{k k':Prop}(h:bZ v k)(hk:k->k'):bZ v k':=by
 obtain⟨a,b⟩:=h;exact⟨a,hk b⟩
def BR.mono{a b a' b':Prop}(h:BR v a b)(ha:a->a')(hb:b->b'):BR v a' b':=by
 rw[VQ]at *;obtain⟨t,ht,h⟩:=h;refine⟨t,ht,?_⟩;cases t<;>simp at h ⊢
 ·exact hb h
 exact ha h
def UJ{ext:Xt}{o:Oper}{ρ:Operand->vL}{K K':vL->wD->Prop}(hk:∀ v w',K v w'->K' v w')
   (h:dP P ext o ρ w K):dP P ext o ρ w K':=by
 obtain⟨_,op,_,_,_,_⟩:=o;cases op
 case call c=>
   obtain⟨callee,_,_⟩:=c;cases callee with
   | value f=>
     cases f with
     | func f=>
       simp only[dP]at h ⊢;cases hx:ext.l.elem f<;>simp only[hx,cond_true,cond_false]at h ⊢
       ·exact aJ.mono h hk
       exact Iw hk h
     |_=>exact Iw hk h
   |invoke r m=>exact Iw hk h
   | builtin b=>
     cases b
     case append=>exact OP.mono h hk
     case copy=>exact OP.mono h hk
     case delete=>exact OP.mono h hk
     case clear=>exact OP.mono h hk
     case len=>exact YH.mono h λv=>hk v _
     case cap=>exact YH.mono h λv=>hk v _
     case min=>exact YH.mono h λv=>hk v _
     case max=>exact YH.mono h λv=>hk v _
     all_goals exact(show False from h).elim
 case move x=>exact hk _ _ h
 case assign x=>exact hk _ _ h
 case pick c x y=>exact BR.mono h (hk _ _) (hk _ _)
 case nilCheck x=>exact bZ.mono h (hk _ _)
 all_goals first
   |exact(show False from h).elim
   |exact OP.mono h hk
   |exact fA.mono h λw'=>hk _ w'
   |exact YH.mono h λv=>hk v _
def zsY{o:Oper}{ρ ρ':Operand->vL}(h:∀ x∈o.op.operands,ρ x=ρ' x):pI o ρ=pI o ρ':=by
 obtain⟨_,op,_,_,_,_⟩:=o;have ar:∀xs:Array Operand,(∀x∈xs,ρ x=ρ' x)->xs.toList.map ρ=xs.toList.map ρ':=λxs hx=>FU λx hm=>hx x (by simpa using hm);cases op<;>simp only[Op.operands]at h<;>simp only[pI]
 case build t ps=>
   have:prs ρ ps.toList=prs ρ' ps.toList:=by
     have:∀l:List (Nat×Operand),(∀p∈l,ρ p.2=ρ' p.2)->prs ρ l=prs ρ' l:=by
       intro l
       induction l with
       |nil=>intro _;rfl
       |cons p l ih=>intro hl;obtain⟨i,x⟩:=p;simp only[prs];rw[ih λp hp=>hl p (by simp[hp]),show ρ x=ρ' x from hl (i,x) ss]
     exact this _ λp hp=>h p.2 (by simp;exact⟨p.1,by simpa using hp⟩)
   rw[this]
 case makeFunc fn first captured=>
   rw[ar first λx hx=>h x (by simp[hx]),ar captured λx hx=>h x (by simp[hx])]
 case call c=>
   obtain⟨callee,args,_⟩:=c;cases callee with
   |value f=>rfl
   |invoke r m=>rfl
   |builtin b=>cases b<;>first|rfl|(simp only;rw[ar args λx hx=>h x (by simp[Call.operands,hx])])
 case slice t x lo hi mx=>cases lo<;>cases hi<;>cases mx<;>simp_all
 all_goals first|rfl|(simp_all;done)
def aj{ext:Xt}{o:Oper}{ρ ρ':Operand->vL}{K:vL->wD->Prop}(h:∀ x∈o.op.operands,ρ x=ρ' x)
   (hk:dP P ext o ρ w K):dP P ext o ρ' w K:=by
 have hr:=zsY h;obtain⟨_,op,_,_,_,_⟩:=o;have ar:∀xs:Array Operand,(∀x∈xs,ρ x=ρ' x)->xs.toList.map ρ=xs.toList.map ρ':=λxs hx=>FU λx hm=>hx x (by simpa using hm);cases op<;>simp only[Op.operands]at h
 case call c=>
   obtain⟨callee,args,_⟩:=c;have ha:=ar args λx hx=>h x (by simp[Call.operands,hx]);cases callee with
   | value f=>
     have hf:ρ f=ρ' f:=h f (by simp[Call.operands]);cases f with
     |func f=>simp only[dP,ha]at hk ⊢;exact hk
     |_=>simp only[dP,ha,hf]at hk ⊢;exact hk
   | invoke r m=>
     have hf:ρ r=ρ' r:=h r (by simp[Call.operands]);simp only[dP,ha,hf]at hk ⊢;exact hk
   | builtin b=>
     cases b<;>simp only[dP,ha,pI]at hk ⊢<;>exact hk
 case buildSlice t n ps=>
   have:prs ρ ps.toList=prs ρ' ps.toList:=by
     have:∀l:List (Nat×Operand),(∀p∈l,ρ p.2=ρ' p.2)->prs ρ l=prs ρ' l:=by
       intro l
       induction l with
       |nil=>intro _;rfl
       |cons p l ih=>intro hl;obtain⟨i,x⟩:=p;simp only[prs];rw[ih λp hp=>hl p (by simp[hp]),show ρ x=ρ' x from hl (i,x) ss]
     exact this _ λp hp=>h p.2 (by simp;exact⟨p.1,by simpa using hp⟩)
   simp only[dP,this]at hk ⊢;exact hk
 case makeMap t r=>
   cases r with
   |none=>exact hk
   |some r=>simp only[dP,OT]at hk ⊢;rwa[<-h r ss]
 case move x=>simp only[dP]at hk ⊢;rwa[<-h x ss]
 case assign x=>simp only[dP]at hk ⊢;rwa[<-h x ss]
 case pick c x y=>simp only[dP]at hk ⊢;rwa[<-h x ss,<-h y ss,<-h c ss]
 case nilCheck x=>simp only[dP]at hk ⊢;rwa[<-h x ss]
 case alloc e=>exact hk
 case box e x=>simp only[dP]at hk ⊢;rwa[<-h x ss]
 case store t x y=>simp only[dP]at hk ⊢;rwa[<-h x ss,<-h y ss]
 case makeSlice t x y=>simp only[dP]at hk ⊢;rwa[<-h x ss,<-h y ss]
 case mapUpdate t x y z=>simp only[dP]at hk ⊢;rwa[<-h x ss,<-h y ss,<-h z ss]
 case insert t x y z=>simp only[dP]at hk ⊢;rwa[<-h x ss,<-h y ss,<-h z ss]
 case mapEntry t x y=>simp only[dP]at hk ⊢;rwa[<-h x ss,<-h y ss]
 case entryStore t x y z=>simp only[dP]at hk ⊢;rwa[<-h x ss,<-h y ss,<-h z ss]
 case range t x=>simp only[dP]at hk ⊢;rwa[<-h x ss]
 case next x b=>simp only[dP]at hk ⊢;rwa[<-h x ss]
 case entry x=>simp only[dP]at hk ⊢;rwa[<-h x ss]
 all_goals first
   |exact(show False from hk).elim
   |(simp only[dP]at hk ⊢;rw[<-hr];exact hk)
def yH(o:Oper):Bool:=
 match o.op with
 |.move _=>true
 |.assign _=>true
 |.pick ..=>true
 |.nilCheck _=>true
 |_=>(pI o λ_=>undef).isSome
def Rv(P:pG)(x:Xt)(o:Oper)(ρ:Operand->vL)(w:wD)(v:vL):Prop:=
 match o.op with
 |.move x=>v=ρ x
 |.assign x=>v=ρ x
 |.pick c a b=>∃t,ρ c=.bool t/\v=if t then ρ a else ρ b
 |.nilCheck x=>YD (ρ x)=true/\v=ρ x
 |_=>∃m,pI o ρ=some m/\∀w',x.rel w w'->m.run P w'=.ok v w'
def JH{ext:Xt}{o:Oper}{ρ:Operand->vL}{K:vL->wD->Prop}(hr:yH o=true) :
   dP P ext o ρ w K↔∃v,Rv P ext o ρ w v/\K v w:=by
 obtain⟨_,op,_,_,_,_⟩:=o
 have rd:∀m,(match ext.X with|none=>RD P m w (λv=>K v w)|some X=>lH P X m w (λv=>K v w))↔∃v,(∃m',some m=some m'/\∀w',ext.rel w w'->m'.run P w'=.ok v w')/\K v w:=λm=>
   rW.trans ⟨λ⟨v,h,k⟩=>⟨v,⟨m,rfl,h⟩,k⟩,λ⟨v,⟨m',e,h⟩,k⟩=>by cases e;exact⟨v,h,k⟩⟩
 cases op
 case move x=>simp[dP,Rv]
 case assign x=>simp[dP,Rv]
 case pick c x y=>
   simp only[dP,Rv,VQ];constructor
   ·rintro⟨b,hb,h⟩;exact⟨_,⟨b,hb,rfl⟩,by cases b<;>exact h⟩
   rintro⟨v,⟨b,hb,rfl⟩,h⟩;exact⟨b,hb,by cases b<;>exact h⟩
 case nilCheck x=>
   simp only[dP,Rv];exact⟨λ⟨a,b⟩=>⟨_,⟨a,rfl⟩,b⟩,λ⟨v,⟨a,e⟩,b⟩=>by subst e;exact⟨a,b⟩⟩
 case call c=>
   obtain⟨callee,_,_⟩:=c;cases callee with
   |value f=>simp[yH,pI]at hr
   |invoke r m=>simp[yH,pI]at hr
   |builtin b=>cases b<;>first|exact rd _|(simp[yH,pI]at hr)
 all_goals first
   |exact rd _
   |(simp[yH,pI]at hr)
def zGF{x:Xt}{o:Oper}{ρ:Operand->vL}(h:Rv P x o ρ w v)(hx:x.rel w w'):Rv P x o ρ w' v:=by
 unfold Rv at *;split at h<;>try exact h
 obtain⟨m,hm,h⟩:=h;exact⟨m,hm,λw'' g0=>h w'' (x.rel_trans hx g0)⟩
def zBw{xt:Xt}{o:Oper}{ρ ρ':Operand->vL}(h:∀ x∈o.op.operands,ρ x=ρ' x)(hr:yH o=true)(hv:Rv P xt o ρ w v):Rv P xt o ρ' w v:=by
 have h1:=(JH (P:=P) (ext:=xt) (K:=λv' w'=>v'=v/\w'=w) hr).2 ⟨v,hv,rfl,rfl⟩;obtain⟨v',g0,rfl,_⟩:=(JH hr).1 (aj h h1);exact g0
def xP(o:Oper):Bool:=
 match o.op with
 |.move _=>true
 |.assign _=>true
 |.pick ..=>true
 |.nilCheck _=>true
 |.extract ..=>true
 |_=>false
def UX{o:Oper}(h:xP o=true):yH o=true:=by
 obtain⟨_,op,_,_,_,_⟩:=o;cases op<;>first|rfl|(simp[xP]at h)
def zEP{x:Xt}{o:Oper}{ρ:Operand->vL}(hp:xP o=true)(h:Rv P x o ρ w v):Rv P x o ρ w' v:=by
 obtain⟨_,op,_,_,_,_⟩:=o;cases op<;>first|exact h|(simp[xP]at hp;done)|skip
 case extract t i=>
   obtain⟨_,hm,h⟩:=h;simp only[pI,iU]at hm;subst hm;refine⟨_,rfl,λ_ _=>?_⟩;have h1:=h w (x.rel_refl w)
   revert h1
   cases ρ t with
   | tuple vs=>
     simp only[Instr.extract];cases vs[i]? with
     |none=>intro h1;simp at h1
     |some u=>intro h1;simp at h1 ⊢;exact h1
   |_=>intro h1;simp[Instr.extract]at h1
def CH(ol:List Oper)(o:Oper)(s:cW):Option Bool:=
 match o.guard with
 |none=>some true
 | some (j,want)=>
   match (nth ol j).bind (·.dst)with
   |none=>none
   | some d=>match s d with
     |.bool b=>some (b == want)
     |.tuple a=>bif Nat.beq a.size 0 then(match (nth ol j).bind (·.guard)with|none=>none|some _=>some false)else none
     |_=>none
theorem zEQ(v:vL)(kt kf ks:Prop):AV v kt kf ks↔(∃b,v=.bool b/\(if b then kt else kf))\/(v=undef/\ks):=by
 cases v with
 |bool b=>cases b<;>simp[AV,undef]
 | tuple a=>
   simp only[AV,undef];cases h:Nat.beq a.size 0 with
   | true=>
     have:a=#[]:=Yj.1 (UC h);subst this;simp
   | false=>
     have:a≠#[]:=λe=>by subst e;cases h
     simp[this]
 |_=>simp[AV,undef]
theorem JV{ext:Xt}{ol:List Oper}{s:cW}{K:cW->wD->Prop}{o:Oper}(ho:nth ol i=some o) :
   uA P ext ol fl i s w K↔∃b,CH ol o s=some b/\(if b then qS P ext o (lN fl i) s w K else K (put s o.dst undef) w):=by
 unfold uA CH;simp only[ho];cases hg:o.guard with
 |none=>simp
 | some g=>
   obtain⟨j,C⟩:=g;simp only;cases hd:(nth ol j).bind (·.dst)with
   |none=>simp
   | some d=>
     simp only;cases hgj:(nth ol j).bind (·.guard)with
     | none=>
       simp only[VQ];constructor
       ·rintro⟨b,hb,h⟩;have hu:=MI hb;refine⟨b == C,by simp[hb],?_⟩;cases b<;>cases C<;>simp only[cond_true,cond_false,if_true,DH,if_false,hu]at h ⊢<;>simpa using h
       rintro⟨c,hc,h⟩;cases hv:s d with
       | bool b=>
         rw[hv]at hc;simp only[iU]at hc;subst hc;have hu:=MI hv;refine⟨b,rfl,?_⟩;cases b<;>cases C<;>simp only[cond_true,cond_false,if_true,DH,if_false,hu]<;>simpa using h
       |tuple a=>rw[hv]at hc;simp only at hc;cases h0:Nat.beq a.size 0<;>rw[h0]at hc<;>simp at hc
       |_=>rw[hv]at hc;simp at hc
     | some g'=>
       simp only[zEQ];constructor
       ·rintro(⟨b,hb,h⟩|⟨hb,h⟩)
        ·have hu:=MI hb;refine⟨b == C,by simp[hb],?_⟩;cases b<;>cases C<;>simp only[cond_true,cond_false,if_true,DH,if_false,hu]at h ⊢<;>simpa using h
        have hu:=MI hb;rw[hu]at h;exact⟨false,by rw[hb];rfl,by simpa using h⟩
       rintro⟨c,hc,h⟩;cases hv:s d with
       | bool b=>
         rw[hv]at hc;simp only[iU]at hc;subst hc;have hu:=MI hv;refine .inl ⟨b,rfl,?_⟩;cases b<;>cases C<;>simp only[cond_true,cond_false,if_true,DH,if_false,hu]<;>simpa using h
       | tuple a=>
         rw[hv]at hc;simp only at hc;cases h0:Nat.beq a.size 0 with
         |false=>rw[h0]at hc;simp at hc
         | true=>
           rw[h0]at hc;simp only[cond_true,iU]at hc;subst hc;have ha:a=#[]:=Yj.1 (UC h0);subst ha;have hu:upd s d undef=s:=MI hv;refine .inr ⟨rfl,?_⟩;rw[hu];simpa using h
       |_=>rw[hv]at hc;simp at hc
def ec{ext:Xt}{o:Oper}{C:Bool}{s:cW}{K K':cW->wD->Prop}(hk:∀ s w,K s w->K' s w)
   (h:qS P ext o C s w K):qS P ext o C s w K':=by
 refine UJ (λ_ _ hh=>?_) h;cases C
 ·exact hk _ _ hh
 exact⟨hh.1,hk _ _ hh.2⟩
theorem zv6{ext:Xt}{ol:List Oper}{s:cW}{K K':cW->wD->Prop}(hk:∀ s w,K s w->K' s w)
   (h:uA P ext ol fl i s w K):uA P ext ol fl i s w K':=by
 cases ho:nth ol i with
 |none=>simp[uA,ho]at h
 | some o=>
   rw[JV ho]at h ⊢;obtain⟨b,hb,h⟩:=h;refine⟨b,hb,?_⟩;cases b
   ·exact hk _ _ h
   exact ec hk h
theorem Zk{ops:Array Oper}{o:Oper}{s:cW}{x:Option Nat}(h:∀ d,x=some d->d∉o.looksAt ops):CH ops.toList o (put s x v)=CH ops.toList o s:=by
 unfold CH;cases hg:o.guard with
 |none=>rfl
 | some g=>
   obtain⟨j,_⟩:=g;simp only;cases hd:(nth ops.toList j).bind (·.dst)with
   |none=>rfl
   | some t=>
     have:put s x v t=s t:=Kc λd hx e=>h d hx (by subst e;rw[zC]at hd;simp[Oper.looksAt,hg,hd]);simp only[this]
theorem Uj{ops:Array Oper}{o:Oper}{s:cW}{x:Option Nat}(h:∀ d,x=some d->d∉o.looksAt ops):∀y∈o.op.operands,ev (put s x v) y=ev s y:=by
 intro y hy;cases y with
 | tmp t=>
   show put s x v t=s t;exact Kc λd hx e=>h d hx (by subst e;exact EZ _ (VI.2 ⟨.tmp t,by simpa using hy,rfl⟩))
 |_=>rfl
theorem swap{ext:Xt}{ops:Array Oper}{fl x y:Nat}{ox oy:Oper}{s:cW}{K:cW->wD->Prop}
   (hx:nth ops.toList x=some ox) (hy:nth ops.toList y=some oy) (hr:yH ox=true) (g2:lN fl x=false) (g5:ox.apart ops oy=true) (hf:yH oy=true\/lN fl y=true\/xP ox=true)
   (h:uA P ext ops.toList fl x s w λs w=>uA P ext ops.toList fl y s w K) :
   uA P ext ops.toList fl y s w λs w=>uA P ext ops.toList fl x s w K:=by
 obtain⟨h1,h2,h3⟩:=Oper.apart_spec g5;rw[JV hx]at h;obtain⟨bx,g1,h⟩:=h
 have g9:∃v,(∀s2 w2,(ext.rel w w2\/xP ox=true)->(CH ops.toList ox s2=CH ops.toList ox s)->(∀z∈ox.op.operands,ev s2 z=ev s z)->K (put s2 ox.dst v) w2->uA P ext ops.toList fl x s2 w2 K) /\
     uA P ext ops.toList fl y (put s ox.dst v) w K:=by
   cases bx with
   | false=>
     refine⟨undef,λs2 w2 _ hg _ hk=>?_,h⟩;rw[JV hx];exact⟨false,by rw[hg,g1],hk⟩
   | true=>
     simp only[if_true]at h;obtain⟨v,hv,hk⟩:=(JH hr).1 h;rw[g2]at hk;refine⟨v,λs2 w2 D hg he g3=>?_,hk⟩;rw[JV hx];refine⟨true,by rw[hg,g1],?_⟩;rw[g2];simp only[if_true];unfold qS;have g4:=zBw (λz hz=>(he z hz).symm) hr hv;rcases D with D|D
     ·exact(JH hr).2 ⟨v,zGF g4 D,g3⟩
     exact(JH hr).2 ⟨v,zEP D g4,g3⟩
 obtain⟨v,g0,C⟩:=g9;rw[JV hy]at C ⊢;obtain⟨b,hb,C⟩:=C;rw[Zk (λd hd=>h1 d hd)]at hb;refine⟨b,hb,?_⟩
 have fin:∀u w2,(ext.rel w w2\/xP ox=true)->K (put (put s ox.dst v) oy.dst u) w2->uA P ext ops.toList fl x (put s oy.dst u) w2 K:=by
   intro u w2 D hk;refine g0 _ _ D (Zk λd hd=>h3 d hd) (Uj λd hd=>h3 d hd) ?_;rw[<-kx s v u h2];exact hk
 cases b with
 |false=>exact fin _ _ (.inl (ext.rel_refl w)) C
 | true=>
   simp only[if_true]at C ⊢;unfold qS at C ⊢;have C:=aj (ρ':=ev s) (Uj λd hd=>h1 d hd) C;rcases hf with hf|hf|hf
   ·obtain⟨u,hu,hk⟩:=(JH hf).1 C;refine(JH hf).2 ⟨u,hu,?_⟩;cases hm:lN fl y<;>rw[hm]at hk
    ·exact fin _ _ (.inl (ext.rel_refl w)) hk
    exact⟨hk.1,fin _ _ (.inl hk.1) hk.2⟩
   ·refine UJ (λu w2 hk=>?_) C;rw[hf]at hk ⊢;exact⟨hk.1,fin _ _ (.inl hk.1) hk.2⟩
   refine UJ (λu w2 hk=>?_) C;cases hm:lN fl y<;>rw[hm]at hk
   ·exact fin _ _ (.inr hf) hk
   exact⟨hk.1,fin _ _ (.inr hf) hk.2⟩
theorem zv7{ext:Xt}{ops:Array Oper}{fl y:Nat}{oy:Oper}{K:cW->wD->Prop}(hy:nth ops.toList y=some oy)(c2:List Nat) :
   ∀(c1:List Nat)(s:cW)(w:wD),(∀x∈c1,∃ox,nth ops.toList x=some ox/\yH ox=true/\lN fl x=false/\ox.apart ops oy=true/\(yH oy=true\/lN fl y=true\/xP ox=true)) ->
     rV P ext ops.toList fl K (c1++y :: c2) s w->rV P ext ops.toList fl K (y :: (c1++c2)) s w:=by
 intro c1
 induction c1 with
 |nil=>intro s w _ h;exact h
 | cons x c1 ih=>
   intro s w hc h;obtain⟨ox,hx,hr,g0,g1,hf⟩:=hc x ss;refine swap hx hy hr g0 g1 hf<|zv6 (λs w hk=>ih s w (λz hz=>hc z (by simp[hz])) hk) h
structure kH(n:Nat)(ds:List Nat)(a a':Act):Prop where
 size:a'.tmps.size=n
 defers:a'.defers=a.defers
 env:∀t,t∉ds->fS a' t=fS a t
def kH.refl{a:Act}(ds:List Nat)(h:a.tmps.size=n):kH n ds a a:=⟨h,rfl,λ_ _=>rfl⟩
def kH.trans{d1 d2 ds:List Nat}{a b c:Act}(h:kH n d1 a b)(k:kH n d2 b c)(h1:∀ t,t∈d1->t∈ds)(h2:∀ t,t∈d2->t∈ds):kH n ds a c:=
 ⟨k.size,k.defers.trans h.defers,λt ht=>(k.env t λe=>ht (h2 t e)).trans (h.env t λe=>ht (h1 t e))⟩
def sQ(ol:List Oper):List Nat:=ol.filterMap (·.dst)
def PD(ext:List Nat)(N n:Nat)(ol:List Oper):Bool:=ol.all λo=>YP ext N o&&(match o.dst with|some d=>Nat.blt d n|none=>true)
def vz{ext:Xt}{ol:List Oper}(h:PD ext.l N n ol=true){i:Nat}{o:Oper}(ho:nth ol i=some o) :
   YP ext.l N o=true/\(∀d,o.dst=some d->d<n)/\(∀d,o.dst=some d->d∈sQ ol):=by
 rw[HL]at ho;have hm:=List.mem_of_getElem? ho;have h1:=nG.1 h o hm;simp only[iA]at h1;refine⟨h1.1,λd hd=>?_,λd hd=>VI.2 ⟨o,hm,hd⟩⟩;have h2:=h1.2;rw[hd]at h2;exact QY h2
theorem zv8{ops:Array Oper}{o:Oper}{a:Act}{b:Bool}(h:CH ops.toList o (fS a)=some b):Region.wanted o (yielded ops a.tmps)=b:=by
 unfold CH at h;unfold Region.wanted;cases hg:o.guard with
 |none=>rw[hg]at h;simpa using h
 | some g=>
   obtain⟨j,g0⟩:=g;rw[hg]at h;simp only at h ⊢;rw[zC]at h;unfold yielded;cases hd:(ops[j]?).bind (·.dst)with
   |none=>rw[hd]at h;simp at h
   | some d=>
     rw[hd]at h;simp only[Dj]at h ⊢;cases hv:a.tmps[d]? with
     | none=>
       have:fS a d=undef:=by simp[fS,hv]
       rw[this]at h;simp only[undef]at h;cases hgj:(ops[j]?).bind (·.guard)with
       |none=>rw[hgj]at h;simp at h
       | some g'=>
         rw[hgj]at h;simp at h;rw[h];rfl
     | some v=>
       have:fS a d=v:=by simp[fS,hv]
       rw[this]at h;cases v with
       |bool c=>simp only[iU]at h;subst h;cases c<;>cases g0<;>rfl
       | tuple a=>
         simp only at h;cases h0:Nat.beq a.size 0 with
         |false=>rw[h0]at h;simp at h
         | true=>
           rw[h0]at h;simp only[cond_true]at h;cases hgj:(ops[j]?).bind (·.guard)with
           |none=>rw[hgj]at h;simp at h
           | some g'=>
             rw[hgj]at h;simp only[iU]at h;subst h;rfl
       |_=>simp at h
section
variable {P:pG}{ext:Xt}{N n:Nat}(hE:∀ f,f<N->ext.l.elem f=false->xT P f=true)
include hE
theorem Dn{ops:Array Oper}{fl i:Nat}{a:Act}{w:wD}{K:cW->wD->Prop}{M:Act->wD->Prop}{Q:Exit->Act->wD->Prop}
   (g0:PD ext.l N n ops.toList=true) (hn:a.tmps.size=n) (h:uA P ext ops.toList fl i (fS a) w K)
   (hM:∀a' w',kH n (sQ ops.toList) a a'->K (fS a') w'->M a' w'):wpOp P ops Q i M a w:=by
 cases ho:nth ops.toList i with
 |none=>simp[uA,ho]at h
 | some o=>
   obtain⟨hc,hd,hm⟩:=vz g0 ho;have D:∀v,fS (a.put o.dst v)=put (fS a) o.dst v:=λv=>zxI λt ht=>by rw[hn];exact hd t ht
   have C:∀v,kH n (sQ ops.toList) a (a.put o.dst v):=λv=>
     ⟨by rw[px,hn],qh a _ v,λt ht=>by rw[D];exact Kc λd hd e=>ht (e▸hm d hd)⟩
   rw[JV ho]at h;obtain⟨b,hb,h⟩:=h;unfold wpOp;rw[<-zC,ho];simp only[zv8 hb];cases b with
   | false=>
     simp only[DH,if_false]at h ⊢;exact hM _ _ (C _) (by rw[D];exact h)
   | true=>
     simp only[if_true]at h ⊢;refine .inl ?_;unfold qS at h;rw[Ra]at h;refine Oper.wp_mono (λa' w'=>?_) (re hE hc h);rintro⟨v,rfl,hk⟩;refine hM _ _ (C v) ?_;rw[D];cases hf:lN fl i<;>rw[hf]at hk
     ·exact hk
     exact hk.2
theorem zs1{ops:Array Oper}{fl:Nat}{K:cW->wD->Prop}{Q:Exit->Act->wD->Prop}(g0:PD ext.l N n ops.toList=true) :
   ∀(l:List Nat)(a:Act)(w:wD),a.tmps.size=n->rV P ext ops.toList fl K l (fS a) w ->
     (∀a' w',kH n (sQ ops.toList) a a'->K (fS a') w'->Q .normal a' w')->wpOps P ops Q l a w:=by
 intro l
 induction l with
 |nil=>intro a w hn h hq;exact hq a w (.refl _ hn) h
 | cons i l ih=>
   intro a w hn h hq;rw[wpOps_cons];exact Dn hE g0 hn h λa' w' hk hh=>ih a' w' hk.size hh λg1 w'' g2 g3=>hq g1 w'' (hk.trans g2 (λ_ h=>h) (λ_ h=>h)) g3
end
def NA:List Oper->List Nat->List Nat
 |[],acc=>acc
 |o :: r,acc=>NA r (acc++[o.after.toList.foldl (λm e=>bif Region.binds .any e then Nat.lor (Nat.lor m (Nat.shiftLeft 1 e.on)) (match nth acc e.on with|some k=>k|none=>0)else m) 0])
def JU(ol:List Oper):List Nat:=NA ol []
def tO(A:List Nat)(j:Nat):Nat:=match nth A j with|some k=>k|none=>0
theorem zER{l:List Edge}
   (h:Nat.testBit (l.foldl (λm e=>bif Region.binds .any e then Nat.lor (Nat.lor m (Nat.shiftLeft 1 e.on)) (tO A e.on)else m) m) i=true) :
   Nat.testBit m i=true\/∃e∈l,Region.binds .any e=true/\(e.on=i\/Nat.testBit (tO A e.on) i=true):=by
 induction l generalizing m with
 |nil=>exact .inl h
 | cons e l ih=>
   rcases ih h with h|⟨e',he,hb,hh⟩
   ·dsimp only at h;cases hb:Region.binds .any e with
    |false=>rw[hb]at h;exact .inl h
    | true=>
      rw[hb]at h;simp only[cond_true]at h;change Nat.testBit ((m ||| (1 <<< e.on)) ||| tO A e.on) i=true at h;simp only[vA,vB]at h;rcases h with(h|h)|h
      ·exact .inl h
      ·refine .inr ⟨e,ss,hb,.inl ?_⟩;rw[Nat.one_shiftLeft,AQ]at h;simpa using h
      exact .inr ⟨e,ss,hb,.inr h⟩
   exact .inr ⟨e',by simp[he],hb,hh⟩
def Ev{α:Type}{l r:List α}(h:j<l.length):nth (l++r) j=nth l j:=by
 rw[HL,HL,List.getElem?_append_left h]
theorem zv9:∀(ol:List Oper)(pre:List Oper)(acc:List Nat),acc.length=pre.length ->
   (∀j o,nth pre j=some o->∀i,Nat.testBit (tO acc j) i=true->∃e∈o.after,Region.binds .any e=true/\(e.on=i\/(e.on<j/\Nat.testBit (tO acc e.on) i=true))) ->
   (NA ol acc).length=(pre++ol).length /\
   ∀j o,nth (pre++ol) j=some o->∀i,Nat.testBit (tO (NA ol acc) j) i=true->∃e∈o.after,Region.binds .any e=true/\(e.on=i\/(e.on<j/\Nat.testBit (tO (NA ol acc) e.on) i=true)):=by
 intro ol
 induction ol with
 |nil=>intro pre acc hl h;simpa[NA]using⟨hl,h⟩
 | cons o r ih=>
   intro pre acc hl h;have step:=ih (pre++[o]) (acc++[o.after.toList.foldl (λm e=>bif Region.binds .any e then Nat.lor (Nat.lor m (Nat.shiftLeft 1 e.on)) (match nth acc e.on with|some k=>k|none=>0)else m) 0]) (by simp[hl]) ?_
   ·simpa[NA]using step
   intro j p hp i hi;rcases XB j pre.length with hj|hj|hj
   ·rw[Ev hj]at hp;have g0:j<acc.length:=oo;have g1:Nat.testBit (tO acc j) i=true:=by simpa only[tO,Ev g0]using hi
    obtain⟨e,he,hb,hh⟩:=h j p hp i g1;refine⟨e,he,hb,hh.imp id λ⟨h1,h2⟩=>⟨h1,?_⟩⟩;simpa only[tO,Ev (show e.on<acc.length by omega)]using h2
   ·subst hj;have g2:p=o:=by rw[HL]at hp;simpa using hp.symm
    subst g2
    have:tO (acc++[p.after.toList.foldl (λm e=>bif Region.binds .any e then Nat.lor (Nat.lor m (Nat.shiftLeft 1 e.on)) (match nth acc e.on with|some k=>k|none=>0)else m) 0]) pre.length=p.after.toList.foldl (λm e=>bif Region.binds .any e then Nat.lor (Nat.lor m (Nat.shiftLeft 1 e.on)) (tO acc e.on)else m) 0:=by
      unfold tO;rw[HL,<-hl];simp
    rw[this]at hi;rcases zER hi with h0|⟨e,he,hb,hh⟩
    ·simp at h0
    refine⟨e,by simpa using he,hb,hh.imp id λh2=>?_⟩
    have g3:e.on<acc.length:=by
      rcases kR e.on acc.length with h'|h'
      ·exact h'
      have:tO acc e.on=0:=by unfold tO;rw[HL,List.getElem?_eq_none h']
      rw[this]at h2;simp at h2
    exact⟨oo,by simpa only[tO,Ev g3]using h2⟩
   have:nth (pre++[o]) j=none:=by rw[HL];simp;omega
   rw[this]at hp;cases hp
def tj(ol:List Oper)(j:Nat)(o:Oper)(ho:nth ol j=some o)(i:Nat)(h:Nat.testBit (tO (JU ol) j) i=true) :
   ∃e∈o.after,Region.binds .any e=true/\(e.on=i\/(e.on<j/\Nat.testBit (tO (JU ol) e.on) i=true)):=
 (zv9 ol [] [] rfl (by intro j o h;simp[nth]at h)).2 j o ho i h
end Go.Sh
namespace Go.Sh
open Go.RowKit (Below)
variable {N j m n p:Nat}{P:pG}{w:wD}
def TX:List Nat->Bool
 |[]=>true
 |x :: l=>!l.elem x&&TX l
def RT(ol:List Oper):List Nat->List Nat->Bool
 |_,[]=>true
 |seen,i :: r=>(match nth ol i with|some o=>o.after.toList.all λe=>!Region.binds .any e || seen.elem e.on|none=>false)&&RT ol (i :: seen) r
def VL(ops:Array Oper)(A:List Nat)(fl i j:Nat):Bool:=
 lN (tO A j) i || (match nth ops.toList i,nth ops.toList j with
   |some oi,some oj=>yH oi&&!lN fl i&&oi.apart ops oj&&(yH oj || (lN fl j || xP oi))
   |_,_=>false)
def HU(ops:Array Oper)(A:List Nat)(fl:Nat):List Nat->Bool
 |[]=>true
 |i :: r=>r.all (VL ops A fl i)&&HU ops A fl r
def Ua(ops:Array Oper)(c:List Nat)(fl:Nat):Bool:=
 TX c&&(c.all λi=>Nat.blt i ops.size)&&((List.range ops.size).all λi=>c.elem i)&&RT ops.toList [] c&&HU ops (JU ops.toList) fl c
theorem Dg:∀{l:List Nat},TX l=true->l.Nodup
 |[],_=>kM
 | x :: l,h=>by
   simp only[TX,iA,xX]at h;refine tZ.2 ⟨λhm=>?_,Dg h.2⟩;have:l.elem x=true:=B8 hm;rw[h.1]at this;cases this
theorem Xe{ops:Array Oper}{A:List Nat}{fl:Nat}:∀{c1 c2:List Nat}{y:Nat},HU ops A fl (c1++y :: c2)=true ->
   (∀x∈c1,VL ops A fl x y=true)/\HU ops A fl (c1++c2)=true
 | [],c2,y,h=>by
   simp only[sL,HU,iA]at h;exact⟨ss,h.2⟩
 | x :: c1,c2,y,h=>by
   simp only[sZ,HU,iA,nG]at h;obtain⟨h1,h2⟩:=Xe h.2;refine⟨λz hz=>?_,?_⟩
   ·rcases bF.1 hz with rfl|hz
    ·exact h.1 y ss
    exact h1 z hz
   simp only[sZ,HU,iA,nG];exact⟨λz hz=>h.1 z (by rcases dF.1 hz with hz|hz<;>simp[hz]),h2⟩
structure vC(ops:Array Oper)(listed:Array Bool):Prop where
 size:listed.size=ops.size
 down:∀j o,ops[j]?=some o->listed.getD j false=true->∀e∈o.after,Region.binds .any e=true->listed.getD e.on false=true
theorem Yi{ops:Array Oper}{listed:Array Bool}(hc:vC ops listed):∀(j:Nat)(o:Oper),ops[j]?=some o ->
   (∀e∈o.after,Region.binds .any e=true->listed.getD e.on false=true)->∀i,Nat.testBit (tO (JU ops.toList) j) i=true->listed.getD i false=true:=by
 intro j
 induction j using Nat.strongRecOn with
 | _ j ih=>
   intro o ho hd i hi;obtain⟨e,he,hb,hh⟩:=tj ops.toList j o (by rw[zC];exact ho) i hi;have hl:=hd e he hb;rcases hh with rfl|⟨g0,hh⟩
   ·exact hl
   cases ho':ops[e.on]? with
   | none=>
     have:e.on<ops.size:=Nat.lt_trans g0 (Array.getElem?_eq_some_iff.1 ho).1;simp at ho';omega
   |some o'=>exact ih e.on g0 o' ho' (λe' g1 g2=>hc.down e.on o' ho' hl e' g1 g2) i hh
def MY(ops:Array Oper)(listed:Array Bool):List Nat->Prop
 |[]=>True
 |i :: r=>(∃o,ops[i]?=some o/\∀e∈o.after,Region.binds .any e=true->listed.getD e.on false=true)/\MY ops (listed.setIfInBounds i true) r
theorem Ay{ops:Array Oper}:∀{c1 c2:List Nat}{y:Nat}{l:Array Bool},MY ops l (c1++y :: c2)->MY ops (l.setIfInBounds y true) (c1++c2)
 |[],_,_,_,h=>h.2
 | x :: c1,c2,y,l,⟨⟨o,ho,hd⟩,ht⟩=>by
   refine⟨⟨o,ho,λe he hb=>getD_set_true (hd e he hb)⟩,?_⟩;have h2:=Ay ht;by_cases hxy:x=y
   ·subst hxy;exact h2
   rw[Array.setIfInBounds_comm _ _ (Ne.symm hxy)];exact h2
theorem Bh{ops:Array Oper}:∀{c seen:List Nat}{l:Array Bool},(∀k,seen.elem k=true->l.getD k false=true)->(∀i∈c,i<l.size)->RT ops.toList seen c=true->MY ops l c
 |[],_,_,_,_,_=>trivial
 | i :: c,seen,l,h,hc,ht=>by
   simp only[RT,iA]at ht;cases ho:nth ops.toList i with
   |none=>simp[ho]at ht
   | some o=>
     simp only[ho,nG,vB,xX]at ht;rw[zC]at ho;refine⟨⟨o,ho,λe he hb=>h _ ((ht.1 e (by simpa using he)).resolve_left (by simp[hb]))⟩,Bh (seen:=i :: seen) (λk hk=>?_) (λj hj=>by simpa using hc j (by simp[hj])) ht.2⟩;by_cases hik:i=k
     ·subst hik;simp[hc i ss]
     rw[getD_set_ne false hik];refine h k ?_;have hm:k∈i :: seen:=C0 hk;rcases bF.1 hm with e|hm
     ·exact absurd e.symm hik
     exact B8 hm
section
variable {P:pG}{ext:Xt}{N n:Nat}(hE:∀ f,f<N->ext.l.elem f=false->xT P f=true)
include hE
theorem Ga{ops:Array Oper}{fl:Nat}{K:cW->wD->Prop}{Q:Exit->Act->wD->Prop}(gi:PD ext.l N n ops.toList=true) :
   ∀(C:Nat)(c:List Nat)(listed:Array Bool)(a:Act)(w:wD),c.length=C->c.Nodup->(∀j,j∈c↔listed.getD j true=false)->vC ops listed->MY ops listed c ->
     HU ops (JU ops.toList) fl c=true->a.tmps.size=n->rV P ext ops.toList fl K c (fS a) w ->
     (∀a' w',kH n (sQ ops.toList) a a'->K (fS a') w'->Q .normal a' w')->wpAny P .any ops Q C listed a w:=by
 intro C
 induction C with
 | zero=>
   intro c listed a w hl g4 hc g3 ht hp hn h hq;have g5:c=[]:=qC hl;subst g5;refine⟨?_,hq a w (.refl _ hn) h⟩;rw[Mm];intro j hj;exact absurd ((hc j).2 (mem_ready.1 hj).1) ss
 | succ C ih=>
   intro c listed a w hl g4 hc g3 ht hp hn h hq;refine⟨λg0=>?_,λy hy=>?_⟩
   ·cases c with
    |nil=>simp at hl
    | cons i r=>
      obtain⟨⟨o,ho,hd⟩,_⟩:=ht;have:i∈Region.ready .any ops listed:=mem_ready.2 ⟨(hc i).1 ss,o,ho,hd⟩;rw[g0]at this;cases this
   obtain⟨gd,oy,g9,M⟩:=mem_ready.1 hy;have gf:y∈c:=(hc y).2 gd;obtain⟨c1,c2,rfl⟩:=Eb gf;have g1:nth ops.toList y=some oy:=by rw[zC];exact g9
   obtain⟨gg,gh⟩:=Xe hp
   have g2:∀x∈c1,∃ox,nth ops.toList x=some ox/\yH ox=true/\lN fl x=false/\ox.apart ops oy=true/\(yH oy=true\/lN fl y=true\/xP ox=true):=by
     intro x hx;have D:=gg x hx;unfold VL at D;rw[vB]at D;rcases D with hb|hb
     ·exfalso;rw[QT]at hb;have h1:=Yi g3 y oy g9 M x hb;have h2:=(hc x).1 (by simp[hx]);rcases kR x listed.size with h'|h'
      ·simp[h']at h1 h2;rw[h1]at h2;cases h2
      simp[Array.getElem?_eq_none h']at h1
     rw[g1]at hb;cases hox:nth ops.toList x with
     |none=>simp[hox]at hb
     | some ox=>
       simp only[hox,iA,xX,vB]at hb;exact⟨ox,rfl,hb.1.1.1,hb.1.1.2,hb.1.2,hb.2⟩
   have h':=zv7 g1 c2 c1 (fS a) w g2 h;refine Dn hE gi hn h' λa' w' hk hh=>?_
   have gb:y<listed.size:=by
     rcases kR y listed.size with h'|h'
     ·exact h'
     simp[Array.getElem?_eq_none h']at gd
   have O:=g4;rw[oE]at O;refine ih (c1++c2) (listed.setIfInBounds y true) a' w' (by simp at hl ⊢;omega) ?_ ?_ ⟨by simp[g3.size],?_⟩ (Ay ht) gh hk.size hh ?_
   ·have:=g4.sublist (l₁:=c1++c2) (ZZ (Cn y c2) c1);exact this
   ·intro j;by_cases hjy:y=j
    ·subst hjy
     have gc:y∉c1++c2:=by
       intro hm;rcases dF.1 hm with hm|hm
       ·exact O.2.2 y hm y ss rfl
       exact(tZ.1 O.2.1).1 hm
     simp[gc,gb]
    rw[getD_set_ne true hjy,<-hc j];simp only[dF,bF];constructor
    ·rintro(h|h)<;>simp[h]
    rintro(h|h|h)
    ·exact .inl h
    ·exact absurd h.symm hjy
    exact .inr h
   ·intro j o ho hj e he hb;by_cases hjy:y=j
    ·subst hjy;rw[g9]at ho;cases ho;exact getD_set_true (M e he hb)
    rw[getD_set_ne false hjy]at hj;exact getD_set_true (g3.down j o ho hj e he hb)
   exactλgj w'' gl gn=>hq gj w'' (hk.trans gl (λ_ h=>h) (λ_ h=>h)) gn
end
def ZL(ops:Array Oper)(A:List Nat)(p i k:Nat):Bool:=
 lN (tO A k) i || (match nth ops.toList i,nth ops.toList k with
   |some oi,some ok=>bif Nat.ble p k then Nat.blt i p&&(xP oi&&oi.apart ops ok)else !(xP oi&&xP ok) || oi.apart ops ok
   |_,_=>false)
def IZ(ops:Array Oper)(m p:Nat):Bool:=
 Nat.ble p ops.size&&TX (sQ ops.toList)&&(ops.toList.all λo=>o.guard.isNone)&&((sQ ops.toList).all λt=>lN m t)&&((ops.toList.take p).all λo=>o.dst.isSome) &&
   RT ops.toList [] (List.range ops.size)&&((List.range ops.size).all λk=>(List.range k).all λi=>ZL ops (JU ops.toList) p i k)
theorem Xn{P:pG}{ext:Xt}{ol:List Oper}{m:Nat}{s:cW}{w:wD}{Q:iE}:∀{l:List Oper}{k:Nat},NJ P ext ol m s w Q k l ->
   ∀i o,l[i]?=some o->∀(u:cW)(T:Nat->Nat×Nat)(w1:wD),aB w w1->IV (CJ o.after.toList) w.heap.size w1.heap.size T->NO Q u T w1 o.after.toList ->
     dP P ext o (ev (mix m s u)) w1 (λv w2=>aB w1 w2/\Q (k+i) (upd u (HO ol (k+i)) v) (tC T (k+i) (w1.heap.size,w2.heap.size)) w2)
 |[],_,_,i,o,ho=>by simp at ho
 | x :: l,k,h,0,o,ho=>by
   simp only[List.getElem?_cons_zero,iU]at ho;subst ho;exact h.1
 | x :: l,k,h,i+1,o,ho=>by
   have:=Xn h.2 i o (by simpa using ho);rwa[show k+(i+1)=k+1+i by omega]
theorem Nr{Q:iE}{u:cW}{T:Nat->Nat×Nat}{w:wD}:∀{n k:Nat},(∀i,i<n->Q (k+i) u T w)->KK Q u T w k n
 |0,_,_=>trivial
 |n+1,k,h=>⟨h 0 oo,Nr λi hi=>by have:=h (i+1) oo;rwa[show k+1+i=k+(i+1) by omega]⟩
theorem Gx{Q:iE}{u:cW}{T:Nat->Nat×Nat}{w:wD}:∀{l:List Edge},(∀e∈l,Region.binds .any e=true->Q e.on u T w)->NO Q u T w l
 |[],_=>trivial
 | e :: l,h=>by
   simp only[NO];cases hb:Region.binds .any e
   ·exact Gx λx hx=>h x (by simp[hx])
   exact⟨h e ss hb,Gx λx hx=>h x (by simp[hx])⟩
theorem Da:∀{l:List Edge}{i:Nat},i∈CJ l->∃e∈l,Region.binds .any e=true/\e.on=i
 |[],_,h=>by simp[CJ]at h
 | e :: l,i,h=>by
   simp only[CJ]at h;cases hb:Region.binds .any e
   ·rw[hb]at h;obtain⟨x,hx,h2⟩:=Da (l:=l) h;exact⟨x,by simp[hx],h2⟩
   rw[hb]at h;simp only[cond_true,bF]at h;rcases h with rfl|h
   ·exact⟨e,ss,hb,rfl⟩
   obtain⟨x,hx,h2⟩:=Da (l:=l) h;exact⟨x,by simp[hx],h2⟩
theorem Hk{ol:List Oper}:∀{l:List Edge}{p:Nat×Nat},p∈NF ol l->p.2=HO ol p.1/\∃e∈l,Region.binds .any e=true/\e.on=p.1
 |[],_,h=>by simp[NF]at h
 | e :: l,p,h=>by
   simp only[NF]at h;cases hb:Region.binds .any e
   ·rw[hb]at h;obtain⟨h0,x,hx,h2⟩:=Hk (l:=l) h;exact⟨h0,x,by simp[hx],h2⟩
   rw[hb]at h;simp only[cond_true,bF]at h;rcases h with rfl|h
   ·exact⟨rfl,e,ss,hb,rfl⟩
   obtain⟨h0,x,hx,h2⟩:=Hk (l:=l) h;exact⟨h0,x,by simp[hx],h2⟩
theorem Pr{ol:List Oper}:∀{l:List Oper}{k i:Nat}{p:Nat×Nat},p∈yY (GV ol k l) i->p.2=HO ol p.1/\∃o,l[i]?=some o/\(p.1=k+i\/∃e∈o.after.toList,Region.binds .any e=true/\e.on=p.1)
 |[],_,_,_,h=>by simp[GV,yY,nth]at h
 | o :: l,k,0,p,h=>by
   simp only[GV,yY,nth,bF]at h;rcases h with rfl|h
   ·exact⟨rfl,o,rfl,.inl rfl⟩
   obtain⟨h0,h1⟩:=Hk h;exact⟨h0,o,rfl,.inr h1⟩
 | o :: l,k,i+1,p,h=>by
   have h':p∈yY (GV ol (k+1) l) i:=h;obtain⟨h0,o',ho,h1⟩:=Pr h';exact⟨h0,o',by simpa using ho,h1.imp (λe=>oo) id⟩
theorem Nd{ol:List Oper}(hn:(sQ ol).Nodup):∀{i j:Nat}{x y:Oper}{d:Nat},ol[i]?=some x->ol[j]?=some y->x.dst=some d->y.dst=some d->i=j:=by
 induction ol with
 |nil=>intro i j x y d hi;simp at hi
 | cons z l ih=>
   intro i j x y d hi hj hx hy;have g0:∀{k:Nat}{o:Oper},l[k]?=some o->o.dst=some d->d∈sQ l:=λhk ho=>VI.2 ⟨_,List.mem_of_getElem? hk,ho⟩
   have g1:(sQ l).Nodup:=by
     unfold sQ at hn ⊢;rw[List.filterMap_cons]at hn;split at hn
     ·exact hn
     exact(tZ.1 hn).2
   have hz:z.dst=some d->d∉sQ l:=λhz=>by
     unfold sQ at hn ⊢;rw[List.filterMap_cons,hz]at hn;exact(tZ.1 hn).1
   cases i with
   | zero=>
     simp only[List.getElem?_cons_zero,iU]at hi;subst hi;cases j with
     |zero=>rfl
     |succ j=>exact absurd (g0 (by simpa using hj) hy) (hz hx)
   | succ i=>
     cases j with
     | zero=>
       simp only[List.getElem?_cons_zero,iU]at hj;subst hj;exact absurd (g0 (by simpa using hi) hx) (hz hy)
     |succ j=>exact cS (·+1) (ih g1 (i:=i) (j:=j) (by simpa using hi) (by simpa using hj) hx hy)
def QE{s u:cW}(h:∀ t,lN m t=false->u t=s t):mix m s u=u:=by
 funext t;unfold mix;cases ht:lN m t
 ·exact(h t ht).symm
 rfl
def NT:j∈(List.range n).drop p↔p<=j/\j<n:=by
 rw[List.mem_drop_iff_getElem];constructor
 ·rintro⟨_,hi,he⟩;simp at he hi;omega
 rintro⟨_,_⟩;exact⟨j-p,by simp;omega,by simp;omega⟩
structure tJ(ops:Array Oper)(p m:Nat)(Q:iE)(s0:cW)(w0:wD)(c:List Nat)(listed:Array Bool)(s:cW)(T:Nat->Nat×Nat)(w:wD):Prop where
 nodup:(c++(List.range ops.size).drop p).Nodup
 mem:∀j,j∈c++(List.range ops.size).drop p↔listed.getD j true=false
 lt:∀j∈c,j<p
 sorted:c.Pairwise (· < ·)
 closed:vC ops listed
 top:MY ops listed (c++(List.range ops.size).drop p)
 ext:aB w0 w
 env:∀t,lN m t=false->s t=s0 t
 t1:∀j,j<p->listed.getD j false=true->w0.heap.size<=(T j).1/\(T j).1<=(T j).2/\(T j).2<=w.heap.size
 t2:∀i j,i<p->j<p->listed.getD i false=true->listed.getD j false=true->i≠j->(T i).2<=(T j).1\/(T j).2<=(T i).1
 q:∀j,j<p->listed.getD j false=true->Q j s T w
section
variable {ops:Array Oper}{p m:Nat}{Q:iE}{s0 s:cW}{w0 w w':wD}{c c1 c2:List Nat}{listed:Array Bool}{T:Nat->Nat×Nat}{y dy:Nat}{oy:Oper}{v:vL}
def tJ.edge(h:tJ ops p m Q s0 w0 c listed s T w)(g0:∀ e∈oy.after,Region.binds .any e=true->listed.getD e.on false=true) :
   ∀e∈oy.after.toList,Region.binds .any e=true->e.on<p/\listed.getD e.on false=true:=λe he hb=>by
 have hle:=g0 e (by simpa using he) hb
 have hlt':e.on<ops.size:=by
   rcases kR e.on listed.size with h'|h'
   ·rw[h.closed.size]at h';exact h'
   simp[Array.getElem?_eq_none h']at hle
 refine⟨?_,hle⟩;rcases kR e.on p with h'|h'
 ·exact h'
 exfalso;have h2:=(h.mem e.on).1 (NP _ (NT.2 ⟨h',hlt'⟩));have h3:e.on<listed.size:=by rw[h.closed.size];exact hlt'
 simp[h3]at hle h2;rw[hle]at h2;cases h2
def tJ.ready(h:tJ ops p m Q s0 w0 c listed s T w){P:pG}{ext:Xt}(hs:NJ P ext ops.toList m s0 w0 Q 0 (ops.toList.take p))(hp:IZ ops m p=true)
   (g5:y<p) (g3:ops[y]?=some oy) (g0:∀e∈oy.after,Region.binds .any e=true->listed.getD e.on false=true) (gb:oy.dst=some dy) :
   dP P ext oy (ev s) w (λv w2=>aB w w2/\Q y (upd s dy v) (tC T y (w.heap.size,w2.heap.size)) w2):=by
 have C:=h.edge g0
 have M:∀i∈CJ oy.after.toList,i<p/\listed.getD i false=true:=λi hi=>by
   obtain⟨e,he,hb,rfl⟩:=Da hi;exact C e he hb
 have g1:ops.toList[y]?=some oy:=by simpa using g3
 have g4:(ops.toList.take p)[y]?=some oy:=by rw[List.getElem?_take,aP g5];exact g1
 have D:=Xn hs y oy g4 s T w h.ext ⟨λi hi=>h.t1 i (M i hi).1 (M i hi).2,λi hi j hj g9=>h.t2 i j (M i hi).1 (M j hj).1 (M i hi).2 (M j hj).2 g9⟩
   (Gx λe he hb=>h.q e.on (C e he hb).1 (C e he hb).2)
 have g2:HO ops.toList y=dy:=by
   unfold HO;rw[zC,g3];simp only[Dj,gb]
 rw[QE h.env]at D;simp only[vO,g2]at D;exact D
theorem tJ.step(h:tJ ops p m Q s0 w0 (c1++y :: c2) listed s T w)(hp:IZ ops m p=true)
   (st:∀i u u' T T' w1 w2,aB w0 w1->aB w1 w2->(∀q∈yY (GV ops.toList 0 (ops.toList.take p)) i,u' q.2=u q.2/\T' q.1=T q.1)->Q i u T w1->Q i u' T' w2)
   (gi:listed.getD y true=false) (gc:ops[y]?=some oy) (g3:∀e∈oy.after,Region.binds .any e=true->listed.getD e.on false=true) (gj:oy.dst=some dy)
   (g4:aB w w') (gA:Q y (upd s dy v) (tC T y (w.heap.size,w'.heap.size)) w') :
   tJ ops p m Q s0 w0 (c1++c2) (listed.setIfInBounds y true) (upd s dy v) (tC T y (w.heap.size,w'.heap.size)) w':=by
 simp only[IZ,iA,nG]at hp;obtain⟨⟨⟨⟨⟨⟨_,p2⟩,_⟩,p4⟩,p5⟩,_⟩,_⟩:=hp;have gs:=Dg p2;obtain⟨g5,hc,gt,gx,Z,ht,hx,g9,gb,gy,hQ⟩:=h;have gz:y<ops.size:=(Array.getElem?_eq_some_iff.1 gc).1;have g1:y<listed.size:=by rw[Z.size];exact gz
 have g2:ops.toList[y]?=some oy:=by simpa using gc
 rw[fR,sZ]at g5 hc ht;have M:=g5;rw[oE]at M;have D:∀j,y≠j->(listed.setIfInBounds y true).getD j false=true->listed.getD j false=true:=λj C hj=>by rwa[getD_set_ne false C]at hj
 have gd:tC T y (w.heap.size,w'.heap.size) y=(w.heap.size,w'.heap.size):=by simp[tC]
 have g0:∀j,j≠y->tC T y (w.heap.size,w'.heap.size) j=T j:=λj hj=>by
   have:Nat.beq j y=false:=by rw[<-WZ,Nat.beq_eq];exact hj
   simp[tC,this]
 have gf:dy∈sQ ops.toList:=VI.2 ⟨oy,List.mem_of_getElem? g2,gj⟩;refine⟨?_,?_,λj hj=>gt j (by rcases dF.1 hj with h|h<;>simp[h]),gx.sublist (ZZ (Cn y _) c1),⟨by simp[Z.size],?_⟩,?_,xx,λt hm=>?_,?_,?_,?_⟩
 ·rw[fR];exact g5.sublist (ZZ (Cn y _) c1)
 ·intro j;rw[fR];by_cases C:y=j
  ·subst C
   have gg:y∉c1++(c2++(List.range ops.size).drop p):=by
     intro hm;rcases dF.1 hm with hm|hm
     ·exact M.2.2 y hm y ss rfl
     exact(tZ.1 M.2.1).1 hm
   simp only[gg,false_iff];simp[g1]
  rw[getD_set_ne true C,<-hc j];simp only[dF,bF];constructor
  ·rintro(h|h|h)
   ·exact .inl h
   ·exact .inr (.inr (.inl h))
   exact .inr (.inr (.inr h))
  rintro(h|h|h|h)
  ·exact .inl h
  ·exact absurd h.symm C
  ·exact .inr (.inl h)
  exact .inr (.inr h)
 ·intro j o ho hj e he hb;by_cases C:y=j
  ·subst C;rw[gc]at ho;cases ho;exact getD_set_true (g3 e he hb)
  rw[getD_set_ne false C]at hj;exact getD_set_true (Z.down j o ho hj e he hb)
 ·rw[fR];exact Ay ht
 ·rw[AP _ _ (λe=>?_)]
  ·exact g9 t hm
  subst e;have:=p4 _ gf;rw[this]at hm;cases hm
 ·intro j O hj;by_cases C:j=y
  ·rw[C,gd];exact⟨hx.size,g4.size,iD _⟩
  rw[g0 j C];obtain⟨h1,h2,h3⟩:=gb j O (D j (λe=>C e.symm) hj);exact⟨h1,h2,eH h3 g4.size⟩
 ·intro i j gl O hi hj gn;by_cases hiy:i=y
  ·have C:¬j=y:=λe=>gn (hiy.trans e.symm);rw[hiy,gd,g0 j C];exact .inr (gb j O (D j (λe=>C e.symm) hj)).2.2
  by_cases C:j=y
  ·rw[C,gd,g0 i hiy];exact .inl (gb i gl (D i (λe=>hiy e.symm) hi)).2.2
  rw[g0 i hiy,g0 j C];exact gy i j gl O (D i (λe=>hiy e.symm) hi) (D j (λe=>C e.symm) hj) gn
 intro j O hj;by_cases C:j=y
 ·rw[C];exact gA
 have gh:=D j (λe=>C e.symm) hj;refine st j s _ T _ w w' hx g4 (λq hq=>?_) (hQ j O gh);obtain⟨h0,o,ho,h1⟩:=Pr hq
 have gB:ops.toList[j]?=some o:=by
   rw[List.getElem?_take,aP O]at ho;exact ho
 have gp:ops[j]?=some o:=by simpa using gB
 have V:listed.getD q.1 false=true/\q.1<ops.size:=by
   rcases h1 with h1|⟨e,he,hb,h1⟩
   ·rw[vO]at h1;rw[h1];exact⟨gh,(Array.getElem?_eq_some_iff.1 gp).1⟩
   have:=Z.down j o gp gh e (by simpa using he) hb;rw[h1]at this;refine⟨this,?_⟩;rcases kR q.1 listed.size with h'|h'
   ·rw[Z.size]at h';exact h'
   simp[Array.getElem?_eq_none h']at this
 have gq:q.1≠y:=λe=>by
   rw[e]at V;have h1:=V.1;simp[g1]at h1 gi;rw[h1]at gi;cases gi
 refine⟨?_,g0 q.1 gq⟩;have gr:ops.toList[q.1]?=some ops[q.1]:=by simp[V.2]
 cases hdq:ops[q.1].dst with
 | none=>
   exfalso
   have gC:q.1<p:=by
     rcases h1 with h1|⟨e,he,hb,h1⟩
     ·omega
     rcases kR q.1 p with h'|h'
     ·exact h'
     exfalso;have h2:=(hc q.1).1 (NP _ (Ar _ (NP _ (NT.2 ⟨h',V.2⟩))));have h3:q.1<listed.size:=by rw[Z.size];exact V.2
     have h4:=V.1;simp[h3]at h4 h2;rw[h4]at h2;cases h2
   have:=p5 ops[q.1] (List.mem_of_getElem? (l:=ops.toList.take p) (i:=q.1) (by rw[List.getElem?_take,aP gC];exact gr));rw[hdq]at this;cases this
 | some d=>
   have gD:q.2=d:=by
     rw[h0];unfold HO;rw[zC,Array.getElem?_eq_getElem V.2];simp only[Dj,hdq]
   rw[gD];have gE:d≠dy:=λe=>gq (Nd gs gr g2 hdq (e▸gj));exact AP _ _ gE
theorem Sb{P:pG}{ext:Xt}{K:cW->wD->Prop}(hp:IZ ops m p=true)
   (st:∀i u u' T T' w1 w2,aB w0 w1->aB w1 w2->(∀q∈yY (GV ops.toList 0 (ops.toList.take p)) i,u' q.2=u q.2/\T' q.1=T q.1)->Q i u T w1->Q i u' T' w2)
   (hs:NJ P ext ops.toList m s0 w0 Q 0 (ops.toList.take p))
   (hf:∀(u:cW)(T:Nat->Nat×Nat)(w1:wD),aB w0 w1->IV (List.range p) w0.heap.size w1.heap.size T->KK Q u T w1 0 p->rV P ext ops.toList 0 K ((List.range ops.toList.length).drop p) (mix m s0 u) w1) :
   ∀(c:List Nat)(listed:Array Bool)(s:cW)(T:Nat->Nat×Nat)(w:wD),tJ ops p m Q s0 w0 c listed s T w->(∀i∈c,∃o,ops[i]?=some o/\xP o=true) ->
     rV P ext ops.toList 0 K (c++(List.range ops.size).drop p) s w:=by
 have g4:=hp;simp only[IZ,iA,nG]at g4;obtain⟨⟨⟨⟨⟨⟨p1,_⟩,p3⟩,_⟩,p5⟩,_⟩,_⟩:=g4;have hpn:p<=ops.size:=QY p1;intro c
 induction c with
 | nil=>
   intro listed s T w h _
   have C:∀j,j<p->listed.getD j false=true:=λj hj=>by
     have h2:¬listed.getD j true=false:=λe=>by
       have:=(h.mem j).2 e;rw[sL]at this;have:=(NT.1 this).1;omega
     have h3:j<listed.size:=by rw[h.closed.size];omega
     simp[h3]at h2 ⊢;exact h2
   have hv:=hf s T w h.ext ⟨λi hi=>h.t1 i (rC.1 hi) (C i (rC.1 hi)),λi hi j hj gd=>h.t2 i j (rC.1 hi) (rC.1 hj) (C i (rC.1 hi)) (C j (rC.1 hj)) gd⟩
     (Nr λi hi=>by rw[vO];exact h.q i hi (C i hi))
   rw[QE h.env,show ops.toList.length=ops.size by simp]at hv;exact hv
 | cons y c2 ih=>
   intro listed s T w h g5;obtain⟨⟨oy,M,D⟩,_⟩:=h.top;obtain⟨o',g9,gb⟩:=g5 y ss;have:o'=oy:=by rw[M]at g9;cases g9;rfl
   subst this;have gc:=h.lt y ss;have g0:ops.toList[y]?=some o':=by simpa using M
   have gf:(ops.toList.take p)[y]?=some o':=by rw[List.getElem?_take,aP gc];exact g0
   obtain⟨dy,g2⟩:=RZ.1 (p5 o' (List.mem_of_getElem? gf))
   have gg:o'.guard=none:=by
     have:=p3 o' (List.mem_of_getElem? g0);simpa using this
   have gh:listed.getD y true=false:=(h.mem y).1 ss;obtain⟨v,hv,gi,gj⟩:=(JH (UX gb)).1 (h.ready hs hp gc M D g2);rw[sZ];unfold rV;rw[JV (o:=o') (by rw[zC];exact M)];refine⟨true,by unfold CH;rw[gg],?_⟩;simp only[if_true];unfold qS;have gl:lN 0 y=false:=by rw[QT];simp
   rw[gl];refine(JH (UX gb)).2 ⟨v,hv,?_⟩;have g3:put s o'.dst v=upd s dy v:=by rw[g2];rfl
   rw[g3];exact ih _ _ _ _ (tJ.step (c1:=[]) h hp st gh M D g2 gi gj) λi hi=>g5 i (by simp[hi])
end
theorem E4{ops:Array Oper}(p7:∀ k∈List.range ops.size,∀ i∈List.range k,ZL ops (JU ops.toList) p i k=true){c:List Nat}(gb:∀ j∈c,j<p)(g9:c.Pairwise (· < ·))(C:∀ i∈c,∃ o,ops[i]?=some o/\xP o=true) :
   HU ops (JU ops.toList) 0 (c++(List.range ops.size).drop p)=true:=by
 have g0:(c++(List.range ops.size).drop p).Pairwise (· < ·):=by
   rw[ZC];exact⟨g9,P5 (List.drop_sublist _ _) Iv,λi hi j hj=>by have:=gb i hi;have:=(NT.1 hj).1;omega⟩
 have g2:∀j∈c++(List.range ops.size).drop p,j<ops.size:=λj hj=>by
   rcases dF.1 hj with h|h
   ·obtain⟨o,ho,_⟩:=C j h;exact(Array.getElem?_eq_some_iff.1 ho).1
   exact(NT.1 h).2
 have g1:∀i∈c++(List.range ops.size).drop p,∀j∈c++(List.range ops.size).drop p,i<j->VL ops (JU ops.toList) 0 i j=true:=by
   intro i hi j hj gc;have hA:=p7 j (rC.2 (g2 j hj)) i (rC.2 gc);have h0:lN 0 i=false:=by rw[QT];simp
   unfold ZL at hA;unfold VL;rw[vB]at hA ⊢;refine hA.imp id λhA=>?_;cases hoi:nth ops.toList i with
   |none=>simp[hoi]at hA
   | some oi=>
     cases hoj:nth ops.toList j with
     |none=>simp[hoi,hoj]at hA
     | some oj=>
       simp only[hoi,hoj]at hA ⊢;cases hb:Nat.ble p j with
       | true=>
         simp only[hb,cond_true,iA]at hA;simp[UX hA.2.1,h0,hA.2.1,hA.2.2]
       | false=>
         have gd:j<p:=by
           rcases kR j p with h|h
           ·exact h
           rw[Qs h]at hb;cases hb
         have g3:∀q∈c++(List.range ops.size).drop p,q<p->q∈c:=λq hq _=>by
           rcases dF.1 hq with h|h
           ·exact h
           have:=(NT.1 h).1;omega
         obtain⟨_,gf,g4⟩:=C i (g3 i hi oo);obtain⟨_,gg,g5⟩:=C j (g3 j hj gd);rw[zC,gf]at hoi;rw[zC,gg]at hoj;cases hoi;cases hoj;simp only[hb,cond_false,g4,g5,Ip,Bool.not_true,Mr]at hA;simp[UX g4,UX g5,h0,hA]
 generalize c++(List.range ops.size).drop p=l at g0 g1;clear g2
 induction l with
 |nil=>rfl
 | cons x r ih=>
   rw[AZ]at g0;simp only[HU,iA,nG];exact⟨λj hj=>g1 x ss j (by simp[hj]) (g0.1 j hj),ih g0.2 λi hi j hj=>g1 i (by simp[hi]) j (by simp[hj])⟩
section
variable {P:pG}{ext:Xt}{N n:Nat}(hE:∀ f,f<N->ext.l.elem f=false->xT P f=true)
include hE
theorem ua{ops:Array Oper}{m p:Nat}{K:cW->wD->Prop}{QQ:Exit->Act->wD->Prop}(g9:PD ext.l N n ops.toList=true)(hp:IZ ops m p=true)
   {a0:Act} {w0:wD} {Q:iE} (st:∀i u u' T T' w1 w2,aB w0 w1->aB w1 w2->(∀q∈yY (GV ops.toList 0 (ops.toList.take p)) i,u' q.2=u q.2/\T' q.1=T q.1)->Q i u T w1->Q i u' T' w2) (hs:NJ P ext ops.toList m (fS a0) w0 Q 0 (ops.toList.take p))
   (hf:∀(u:cW)(T:Nat->Nat×Nat)(w1:wD),aB w0 w1->IV (List.range p) w0.heap.size w1.heap.size T->KK Q u T w1 0 p->rV P ext ops.toList 0 K ((List.range ops.toList.length).drop p) (mix m (fS a0) u) w1)
   (hq:∀a' w',kH n (sQ ops.toList) a0 a'->K (fS a') w'->QQ .normal a' w') :
   ∀(k:Nat)(c:List Nat)(listed:Array Bool)(a:Act)(w:wD)(T:Nat->Nat×Nat),c.length=k->tJ ops p m Q (fS a0) w0 c listed (fS a) T w->a.tmps.size=n->kH n (sQ ops.toList) a0 a ->
     wpAny P .any ops QQ (k+((List.range ops.size).drop p).length) listed a w:=by
 have gf:=hp;simp only[IZ,iA,nG]at gf;obtain⟨⟨⟨⟨⟨⟨_,_⟩,p3⟩,_⟩,p5⟩,_⟩,p7⟩:=gf;intro k
 induction k with
 | zero=>
   intro c listed a w T hl h hn hk;have g5:c=[]:=qC hl;subst g5;have hv:=Sb (P:=P) (ext:=ext) hp st hs hf [] listed (fS a) T w h ss;refine Ga hE g9 _ _ listed a w ss h.nodup h.mem h.closed h.top ?_ hn hv λa' w' M hh=>hq a' w' (hk.trans M (λ_ h=>h) (λ_ h=>h)) hh;exact E4 p7 (c:=[]) ss ss ss
 | succ k ih=>
   intro c listed a w T hl h hn hk;by_cases hall:∀i∈c,∃o,ops[i]?=some o/\xP o=true
   ·have hv:=Sb (P:=P) (ext:=ext) hp st hs hf c listed (fS a) T w h hall;refine Ga hE g9 _ _ listed a w (by simp[hl]) h.nodup h.mem h.closed h.top ?_ hn hv λa' w' M hh=>hq a' w' (hk.trans M (λ_ h=>h) (λ_ h=>h)) hh;exact E4 p7 h.lt h.sorted hall
   rw[show k+1+((List.range ops.size).drop p).length=(k+((List.range ops.size).drop p).length)+1 by omega];refine⟨λg0=>?_,λy hy=>?_⟩
   ·cases c with
    |nil=>simp at hl
    | cons i r=>
      obtain⟨⟨o,ho,hd⟩,_⟩:=h.top;have:i∈Region.ready .any ops listed:=mem_ready.2 ⟨(h.mem i).1 ss,o,ho,hd⟩;rw[g0]at this;cases this
   obtain⟨gg,oy,D,C⟩:=mem_ready.1 hy;have gi:y∈c++(List.range ops.size).drop p:=(h.mem y).2 gg;have g1:ops.toList[y]?=some oy:=by simpa using D
   have gj:y<ops.size:=(Array.getElem?_eq_some_iff.1 D).1
   have gh:y∈c:=by
     rcases dF.1 gi with h1|h1
     ·exact h1
     exfalso;refine hall λi hi=>?_;have hip:=h.lt i hi;have g4:=(NT.1 h1).1;have hA:=p7 y (rC.2 gj) i (rC.2 oo);unfold ZL at hA;rw[vB]at hA;rcases hA with hA|hA
     ·exfalso;rw[QT]at hA;have h1:=Yi h.closed y oy D C i hA;have h2:=(h.mem i).1 (EZ _ hi);rcases kR i listed.size with h'|h'
      ·simp[h']at h1 h2;rw[h1]at h2;cases h2
      simp[Array.getElem?_eq_none h']at h1
     have hb:Nat.ble p y=true:=Qs g4;cases hoi:nth ops.toList i with
     |none=>simp[hoi]at hA
     | some oi=>
       rw[hoi,zC,D]at hA;simp only[hb,cond_true,iA]at hA;have g2:=hoi;rw[zC]at g2;exact⟨oi,g2,hA.2.1⟩
   have g4:=h.lt y gh;obtain⟨c1,c2,rfl⟩:=Eb gh;have gb:nth ops.toList y=some oy:=by rw[zC];exact D
   have gl:oy.guard=none:=by
     have:=p3 oy (List.mem_of_getElem? g1);simpa using this
   have gn:(ops.toList.take p)[y]?=some oy:=by rw[List.getElem?_take,aP g4];exact g1
   obtain⟨dy,gc⟩:=RZ.1 (p5 oy (List.mem_of_getElem? gn));have g3:=h.ready hs hp g4 D C gc
   have h':uA P ext ops.toList 0 y (fS a) w (λs' w'=>∃v,s'=put (fS a) oy.dst v/\aB w w'/\Q y (upd (fS a) dy v) (tC T y (w.heap.size,w'.heap.size)) w'):=by
     rw[JV gb];refine⟨true,by unfold CH;rw[gl],?_⟩;simp only[if_true];unfold qS;have:lN 0 y=false:=by rw[QT];simp
     rw[this];exact UJ (λv w' hh=>⟨v,rfl,hh.1,hh.2⟩) g3
   refine Dn hE g9 hn h' λa' w' M ⟨v,hv,gp,gq⟩=>ih (c1++c2) (listed.setIfInBounds y true) a' w' (tC T y (w.heap.size,w'.heap.size)) (by simp at hl ⊢;omega) ?_ M.size (hk.trans M (λ_ h=>h) (λ_ h=>h));have gd:fS a'=upd (fS a) dy v:=by rw[hv,gc];rfl
   rw[gd];exact h.step hp st gg D C gc gp gq
end
def RO(ops:Array Oper)(m:Nat):Bool:=
 TX (sQ ops.toList)&&(ops.toList.all λo=>o.guard.isNone)&&((sQ ops.toList).all λt=>lN m t)&&RT ops.toList [] (List.range ops.size)
def qp{a:Array Bool}{y:Nat}(h:y<a.size):(a.setIfInBounds y true).getD y false=true:=by simp[h]
theorem K1{P:pG}{ext:Xt}{m:Nat}{s:cW}{w:wD}{B:wD->Prop}{R:Nat->wD->wD->Prop}{Q:iE}{ol:List Oper}:∀{l:List Oper}{k:Nat},PR P ext ol m s w B R Q k l ->
   ∀i o,l[i]?=some o->∀(u:cW)(T:Nat->Nat×Nat)(w1:wD),B w1->w.heap.size<=w1.heap.size->IV (CJ o.after.toList) w.heap.size w1.heap.size T->PF Q u T w1 (MM s u (k+i) ol) o.after.toList ->
     dP P ext o (ev (mix m s u)) w1 (λv w2=>R (k+i) w1 w2/\Q (k+i) (put u o.dst v) (tC T (k+i) (w1.heap.size,w2.heap.size)) w2)
 |[],_,_,i,o,ho=>by simp at ho
 | x :: l,k,h,0,o,ho=>by
   simp only[List.getElem?_cons_zero,iU]at ho;subst ho;exact h.1
 | x :: l,k,h,i+1,o,ho=>by
   have:=K1 h.2 i o (by simpa using ho);rwa[show k+(i+1)=k+1+i by omega]
theorem Kr{i:Nat}:∀{l:List Edge},IT i l=true->∃e∈l,Region.binds .any e=true/\e.on=i
 |[],h=>by simp[IT]at h
 | e :: l,h=>by
   simp only[IT]at h;cases hb:Region.binds .any e
   ·rw[hb]at h;obtain⟨x,hx,h2⟩:=Kr (l:=l) h;exact⟨x,by simp[hx],h2⟩
   rw[hb]at h;simp only[cond_true]at h;cases hn:Nat.beq e.on i
   ·rw[hn]at h;obtain⟨x,hx,h2⟩:=Kr (l:=l) h;exact⟨x,by simp[hx],h2⟩
   exact⟨e,ss,hb,UC hn⟩
theorem I6{s u:cW}{i:Nat}:∀{l:List Oper},(∀o∈l,IT i o.after.toList=true->∀d,o.dst=some d->u d=s d)->MM s u i l
 |[],_=>trivial
 | o :: l,h=>by
   have ih:=I6 (l:=l) λx hx=>h x (by simp[hx]);simp only[MM];cases ho:IT i o.after.toList
   ·exact ih
   simp only[cond_true];cases hd:o.dst with
   |none=>exact ih
   |some d=>exact⟨h o ss ho d hd,ih⟩
theorem Ji{Q:iE}{u:cW}{T:Nat->Nat×Nat}{w:wD}{E:Prop}(hE:E):∀{l:List Edge},(∀e∈l,Region.binds .any e=true->Q e.on u T w)->PF Q u T w E l
 |[],_=>hE
 | e :: l,h=>by
   simp only[PF];cases hb:Region.binds .any e
   ·exact Ji hE λx hx=>h x (by simp[hx])
   exact⟨h e ss hb,Ji hE λx hx=>h x (by simp[hx])⟩
theorem Wt{ol:List Oper}{p:Nat×Nat}(h:p∈XU ol j):p.1=j/\∃o,ol[j]?=some o/\o.dst=some p.2:=by
 unfold XU at h;rw[HL]at h;cases ho:ol[j]? with
 |none=>simp[ho]at h
 | some o=>
   cases hd:o.dst with
   |none=>simp[ho,hd]at h
   | some d=>
     simp[ho,hd]at h;subst h;exact⟨rfl,o,rfl,hd⟩
theorem Gf{ol:List Oper}:∀{l:List Edge}{p:Nat×Nat},p∈NI ol l->(∃o,ol[p.1]?=some o/\o.dst=some p.2)/\∃e∈l,Region.binds .any e=true/\e.on=p.1
 |[],_,h=>by simp[NI]at h
 | e :: l,p,h=>by
   simp only[NI]at h;cases hb:Region.binds .any e
   ·rw[hb]at h;obtain⟨h0,x,hx,h2⟩:=Gf (l:=l) h;exact⟨h0,x,by simp[hx],h2⟩
   rw[hb]at h;simp only[cond_true,dF]at h;rcases h with h|h
   ·obtain⟨h1,h2⟩:=Wt h;exact⟨by rw[h1];exact h2,e,ss,hb,h1.symm⟩
   obtain⟨h0,x,hx,h2⟩:=Gf (l:=l) h;exact⟨h0,x,by simp[hx],h2⟩
theorem P0{ol:List Oper}:∀{l:List Oper}{k i:Nat}{p:Nat×Nat},p∈yY (JI ol k l) i->(∃o,ol[p.1]?=some o/\o.dst=some p.2)/\∃o,l[i]?=some o/\(p.1=k+i\/∃e∈o.after.toList,Region.binds .any e=true/\e.on=p.1)
 |[],_,_,_,h=>by simp[JI,yY,nth]at h
 | o :: l,k,0,p,h=>by
   simp only[JI,yY,nth,dF]at h;rcases h with h|h
   ·obtain⟨h1,h2⟩:=Wt h;exact⟨by rw[h1];exact h2,o,rfl,.inl h1⟩
   obtain⟨h0,h1⟩:=Gf h;exact⟨h0,o,rfl,.inr h1⟩
 | o :: l,k,i+1,p,h=>by
   have h':p∈yY (JI ol (k+1) l) i:=h;obtain⟨h0,o',ho,h1⟩:=P0 h';exact⟨h0,o',by simpa using ho,h1.imp (λe=>oo) id⟩
structure CF(ops:Array Oper)(m:Nat)(B:wD->Prop)(Q:iE)(s0:cW)(w0:wD)(c:List Nat)(listed:Array Bool)(s:cW)(T:Nat->Nat×Nat)(w:wD):Prop where
 nodup:c.Nodup
 mem:∀j,j∈c↔listed.getD j true=false
 closed:vC ops listed
 top:MY ops listed c
 base:B w
 sz:w0.heap.size<=w.heap.size
 env:∀t,lN m t=false->s t=s0 t
 t1:∀j,listed.getD j false=true->w0.heap.size<=(T j).1/\(T j).1<=(T j).2/\(T j).2<=w.heap.size
 t2:∀i j,listed.getD i false=true->listed.getD j false=true->i≠j->(T i).2<=(T j).1\/(T j).2<=(T i).1
 q:∀j,listed.getD j false=true->Q j s T w
 fr:∀j o d,ops[j]?=some o->listed.getD j false=false->o.dst=some d->s d=s0 d
section
variable {ops:Array Oper}{m:Nat}{B:wD->Prop}{R:Nat->wD->wD->Prop}{Q:iE}{s0 s:cW}{w0 w w':wD}{c c1 c2:List Nat}{listed:Array Bool}{T:Nat->Nat×Nat}{y:Nat}{oy:Oper}{v:vL}
def CF.ready(h:CF ops m B Q s0 w0 c listed s T w){P:pG}{ext:Xt}(hs:PR P ext ops.toList m s0 w0 B R Q 0 ops.toList)
   (g5:listed.getD y false=false) (g2:ops[y]?=some oy) (D:∀e∈oy.after,Region.binds .any e=true->listed.getD e.on false=true) :
   dP P ext oy (ev s) w (λv w2=>R y w w2/\Q y (put s oy.dst v) (tC T y (w.heap.size,w2.heap.size)) w2):=by
 have g0:∀i∈CJ oy.after.toList,listed.getD i false=true:=λi hi=>by
   obtain⟨e,he,hb,rfl⟩:=Da hi;exact D e (by simpa using he) hb
 have C:=K1 hs y oy (by simpa using g2) s T w h.base h.sz ⟨λi hi=>h.t1 i (g0 i hi),λi hi j hj g3=>h.t2 i j (g0 i hi) (g0 j hj) g3⟩
   (Ji (I6 λo ho g4 d hd=>by
     obtain⟨j,hj⟩:=List.mem_iff_getElem?.1 ho;have hj:ops[j]?=some o:=by simpa using hj
     obtain⟨e,he,hb,g1⟩:=Kr g4;rw[vO]at g1;refine h.fr j o d hj ?_ hd;cases hl:listed.getD j false
     ·rfl
     have:=h.closed.down j o hj hl e (by simpa using he) hb;rw[g1,g5]at this;cases this) λe he hb=>h.q e.on (D e (by simpa using he) hb))
 rw[QE h.env]at C;simp only[vO]at C;exact C
theorem CF.step(h:CF ops m B Q s0 w0 (c1++y :: c2) listed s T w)(hp:RO ops m=true)
   (bs:∀j w1 w2,B w1->R j w1 w2->B w2) (sz:∀j w1 w2,R j w1 w2->w1.heap.size<=w2.heap.size)
   (st:∀i j u u' T T' w1 w2,i≠j->B w1->R j w1 w2->(∀q∈yY (JI ops.toList 0 ops.toList) i,u' q.2=u q.2/\T' q.1=T q.1)->Q i u T w1->Q i u' T' w2)
   (gf:listed.getD y true=false) (g5:ops[y]?=some oy) (g2:∀e∈oy.after,Region.binds .any e=true->listed.getD e.on false=true)
   (hR:R y w w') (gr:Q y (put s oy.dst v) (tC T y (w.heap.size,w'.heap.size)) w') :
   CF ops m B Q s0 w0 (c1++c2) (listed.setIfInBounds y true) (put s oy.dst v) (tC T y (w.heap.size,w'.heap.size)) w':=by
 simp only[RO,iA,nG]at hp;obtain⟨⟨⟨p2,_⟩,p4⟩,_⟩:=hp;have gg:=Dg p2;obtain⟨gh,hc,g3,ht,hB,gi,g1,g4,gp,hQ,gj⟩:=h;have gq:y<ops.size:=(Array.getElem?_eq_some_iff.1 g5).1;have M:y<listed.size:=by rw[g3.size];exact gq
 have O:ops.toList[y]?=some oy:=by simpa using g5
 have V:=gh;rw[oE]at V;have D:∀j,y≠j->(listed.setIfInBounds y true).getD j false=true->listed.getD j false=true:=λj C hj=>by rwa[getD_set_ne false C]at hj
 have g9:tC T y (w.heap.size,w'.heap.size) y=(w.heap.size,w'.heap.size):=by simp[tC]
 have g0:∀j,j≠y->tC T y (w.heap.size,w'.heap.size) j=T j:=λj hj=>by
   have:Nat.beq j y=false:=by rw[<-WZ,Nat.beq_eq];exact hj
   simp[tC,this]
 have Z:=sz y w w' hR;refine⟨?_,?_,⟨by simp[g3.size],?_⟩,Ay ht,bs y w w' hB hR,eH gi Z,λt hm=>?_,?_,?_,?_,?_⟩
 ·exact gh.sublist (ZZ (Cn y _) c1)
 ·intro j;by_cases C:y=j
  ·subst C
   have gb:y∉c1++c2:=by
     intro hm;rcases dF.1 hm with hm|hm
     ·exact V.2.2 y hm y ss rfl
     exact(tZ.1 V.2.1).1 hm
   simp only[gb,false_iff];simp[M]
  rw[getD_set_ne true C,<-hc j];simp only[dF,bF];constructor
  ·rintro(h|h)
   ·exact .inl h
   exact .inr (.inr h)
  rintro(h|h|h)
  ·exact .inl h
  ·exact absurd h.symm C
  exact .inr h
 ·intro j o ho hj e he hb;by_cases C:y=j
  ·subst C;rw[g5]at ho;cases ho;exact getD_set_true (g2 e he hb)
  rw[getD_set_ne false C]at hj;exact getD_set_true (g3.down j o ho hj e he hb)
 ·cases hdy:oy.dst with
  |none=>exact g1 t hm
  | some dy=>
    show upd s dy v t=s0 t;rw[AP _ _ (λe=>?_)]
    ·exact g1 t hm
    subst e;have:=p4 _ (VI.2 ⟨oy,List.mem_of_getElem? O,hdy⟩);rw[this]at hm;cases hm
 ·intro j hj;by_cases C:j=y
  ·rw[C,g9];exact⟨gi,Z,iD _⟩
  rw[g0 j C];obtain⟨h1,h2,h3⟩:=g4 j (D j (λe=>C e.symm) hj);exact⟨h1,h2,eH h3 Z⟩
 ·intro i j hi hj gl;by_cases hiy:i=y
  ·have C:¬j=y:=λe=>gl (hiy.trans e.symm);rw[hiy,g9,g0 j C];exact .inr (g4 j (D j (λe=>C e.symm) hj)).2.2
  by_cases C:j=y
  ·rw[C,g9,g0 i hiy];exact .inl (g4 i (D i (λe=>hiy e.symm) hi)).2.2
  rw[g0 i hiy,g0 j C];exact gp i j (D i (λe=>hiy e.symm) hi) (D j (λe=>C e.symm) hj) gl
 ·intro j hj;by_cases C:j=y
  ·rw[C];exact gr
  have gc:=D j (λe=>C e.symm) hj;refine st j y s _ T _ w w' C hB hR (λq hq=>?_) (hQ j gc);obtain⟨⟨_,gs,gt⟩,o,ho,h1⟩:=P0 hq;have gx:ops[j]?=some o:=by simpa using ho
  have gd:listed.getD q.1 false=true:=by
    rcases h1 with h1|⟨e,he,hb,h1⟩
    ·rw[vO]at h1;rw[h1];exact gc
    have:=g3.down j o gx gc e (by simpa using he) hb;rw[h1]at this;exact this
  have gn:q.1≠y:=λe=>by
    rw[e]at gd;simp[M]at gd gf;rw[gd]at gf;cases gf
  refine⟨?_,g0 q.1 gn⟩;cases hdy:oy.dst with
  |none=>rfl
  | some dy=>
    show upd s dy v q.2=s q.2;exact AP _ _ λe=>gn (Nd gg gs O gt (e▸hdy))
 intro j o d hj hl hd
 have C:y≠j:=λe=>by
   rw[<-e,qp M]at hl;cases hl
 rw[getD_set_ne false C]at hl;have gy:ops.toList[j]?=some o:=by simpa using hj
 cases hdy:oy.dst with
 |none=>exact gj j o d hj hl hd
 | some dy=>
   show upd s dy v d=s0 d;have gz:d≠dy:=λe=>C.symm (Nd gg gy O hd (by rw[hdy,e]));rw[AP _ _ gz];exact gj j o d hj hl hd
end
section
variable {P:pG}{ext:Xt}{N n:Nat}(hE:∀ f,f<N->ext.l.elem f=false->xT P f=true)
include hE
theorem xj{ops:Array Oper}{m:Nat}{K:cW->wD->Prop}{QQ:Exit->Act->wD->Prop}(gh:PD ext.l N n ops.toList=true)(hp:RO ops m=true)
   {a0:Act} {w0:wD} {B:wD->Prop} {R:Nat->wD->wD->Prop} {Q:iE} (bs:∀j w1 w2,B w1->R j w1 w2->B w2) (sz:∀j w1 w2,R j w1 w2->w1.heap.size<=w2.heap.size)
   (st:∀i j u u' T T' w1 w2,i≠j->B w1->R j w1 w2->(∀q∈yY (JI ops.toList 0 ops.toList) i,u' q.2=u q.2/\T' q.1=T q.1)->Q i u T w1->Q i u' T' w2) (hs:PR P ext ops.toList m (fS a0) w0 B R Q 0 ops.toList)
   (hf:∀(u:cW)(T:Nat->Nat×Nat)(w1:wD),B w1->w0.heap.size<=w1.heap.size->IV (List.range ops.toList.length) w0.heap.size w1.heap.size T->KK Q u T w1 0 ops.toList.length->K (mix m (fS a0) u) w1)
   (hq:∀a' w',kH n (sQ ops.toList) a0 a'->K (fS a') w'->QQ .normal a' w') :
   ∀(k:Nat)(c:List Nat)(listed:Array Bool)(a:Act)(w:wD)(T:Nat->Nat×Nat),c.length=k->CF ops m B Q (fS a0) w0 c listed (fS a) T w->a.tmps.size=n->kH n (sQ ops.toList) a0 a ->
     wpAny P .any ops QQ k listed a w:=by
 have gb:=hp;simp only[RO,iA,nG]at gb;obtain⟨⟨⟨_,p3⟩,_⟩,_⟩:=gb;intro k
 induction k with
 | zero=>
   intro c listed a w T hl h hn hk;have g3:c=[]:=qC hl;subst g3
   have C:∀j,j<ops.size->listed.getD j false=true:=λj hj=>by
     have h2:¬listed.getD j true=false:=λe=>by simpa using(h.mem j).2 e
     have h3:j<listed.size:=by rw[h.closed.size];omega
     simp[h3]at h2 ⊢;exact h2
   have hv:=hf (fS a) T w h.base h.sz ⟨λi hi=>h.t1 i (C i (by simpa using hi)),λi hi j hj gd=>h.t2 i j (C i (by simpa using hi)) (C j (by simpa using hj)) gd⟩
     (Nr λi hi=>by rw[vO];exact h.q i (C i (by simpa using hi)))
   rw[QE h.env]at hv;refine⟨?_,hq a w hk hv⟩;rw[Mm];intro j hj;exact absurd ((h.mem j).2 (mem_ready.1 hj).1) ss
 | succ k ih=>
   intro c listed a w T hl h hn hk;refine⟨λg0=>?_,λy hy=>?_⟩
   ·cases c with
    |nil=>simp at hl
    | cons i r=>
      obtain⟨⟨o,ho,hd⟩,_⟩:=h.top;have:i∈Region.ready .any ops listed:=mem_ready.2 ⟨(h.mem i).1 ss,o,ho,hd⟩;rw[g0]at this;cases this
   obtain⟨g2,oy,M,D⟩:=mem_ready.1 hy;have gf:y∈c:=(h.mem y).2 g2;have g4:ops.toList[y]?=some oy:=by simpa using M
   obtain⟨c1,c2,rfl⟩:=Eb gf;have g5:nth ops.toList y=some oy:=by rw[zC];exact M
   have gg:oy.guard=none:=by
     have:=p3 oy (List.mem_of_getElem? g4);simpa using this
   have g9:listed.getD y false=false:=by
     have:y<listed.size:=by rw[h.closed.size];exact(Array.getElem?_eq_some_iff.1 M).1
     simp[this]at g2 ⊢;exact g2
   have g1:=h.ready hs g9 M D
   have h':uA P ext ops.toList 0 y (fS a) w (λs' w'=>∃v,s'=put (fS a) oy.dst v/\R y w w'/\Q y (put (fS a) oy.dst v) (tC T y (w.heap.size,w'.heap.size)) w'):=by
     rw[JV g5];refine⟨true,by unfold CH;rw[gg],?_⟩;simp only[if_true];unfold qS;have:lN 0 y=false:=by rw[QT];simp
     rw[this];exact UJ (λv w' hh=>⟨v,rfl,hh.1,hh.2⟩) g1
   refine Dn hE gh hn h' λa' w' gc ⟨v,hv,hR,gi⟩=>ih (c1++c2) (listed.setIfInBounds y true) a' w' (tC T y (w.heap.size,w'.heap.size)) (by simp at hl ⊢;omega) ?_ gc.size (hk.trans gc (λ_ h=>h) (λ_ h=>h));rw[hv];exact h.step hp bs sz st g2 M D hR gi
end
def wrs:Code->List Nat
 |.region _ ops _=>sQ ops.toList
 |.seq a b=>wrs a++wrs b
 |.cond _ a b=>wrs a++wrs b
 |.block _ c=>wrs c
 |.loop c=>wrs c
 |_=>[]
def DL(g:Cfg)(N n:Nat):Code->Bool
 |.skip=>true
 |.region id ops d=>PD g.ext N n ops.toList&&(bif d then(match find g.gpars id with|some m=>RO ops m|none=>match find g.pars id with|some (m,p)=>IZ ops m p|none=>match find g.draws id with|some (l,fl)=>Ua ops l fl|none=>true)else true)
 |.seq a b=>DL g N n a&&DL g N n b&&(match (qA b).bind (find g.joins)with|some (m,_)=>(wrs a).all λt=>lN m t|none=>true)
 |.cond _ a b=>DL g N n a&&DL g N n b
 |.block _ c=>DL g N n c
 |.loop c=>DL g N n c&&(match (qA c).bind (find g.loops)with|some (m,_)=>(wrs c).all λt=>lN m t|none=>true)
 |.exit _=>true
 |.ret=>true
 |_=>true
theorem G6{s:cW}{c:Operand}{b:Bool}(h:ev s c=.bool b):lit s c b=s:=by
 cases c with
 |tmp t=>exact MI h
 |_=>rfl
def fo{Q:Exit->Act->wD->Prop}{c:Code}(I:Nat->Act->wD->Prop)(m:Nat){a:Act}{w:wD}(h₀:I m a w)
   (g0:∀m a w,I m a w->c.wp P (Exit.then (λa' w'=>∃m',m'<m/\I m' a' w') Q) a w):(Code.loop c).wp P Q a w:=by
 intro b k cs
 have g1:∀n a w,I n a w->∃e a' w',Q e a' w'/\Arrives P (lone (b.at a (.code c :: .inLoop c :: k)) cs w) b k cs e a' w':=by
   intro n
   induction n using Nat.strongRecOn with
   | _ n ih=>
     intro a w hI;obtain⟨e,a₁,w₁,hq,C⟩:=g0 n a w hI b (.inLoop c :: k) cs;cases e with
     | normal=>
       obtain⟨m',g2,hI₁⟩:=hq;obtain⟨e₂,a₂,w₂,hq₂,harr₂⟩:=ih m' g2 a₁ w₁ hI₁;exact⟨e₂,a₂,w₂,hq₂,.of_steps (Steps.trans C (.one step_inLoop)) harr₂⟩
     |exit id=>exact⟨_,a₁,w₁,hq,.pass (x:=.inLoop c) rfl (λ_ _=>.inl ss) C⟩
     |goto l=>exact⟨_,a₁,w₁,hq,.pass (x:=.inLoop c) rfl (λ_ _=>.inl ss) C⟩
     |ret=>exact⟨_,a₁,w₁,hq,.pass (x:=.inLoop c) rfl (λ_ _=>.inl ss) C⟩
     |panic ch=>exact⟨_,a₁,w₁,hq,.pass (x:=.inLoop c) rfl (λ_ _=>.inl ss) C⟩
     |outgrown=>exact⟨_,a₁,w₁,hq,.pass (x:=.inLoop c) rfl (λ_ _=>.inl ss) C⟩
 obtain⟨e,a',w',hq,C⟩:=g1 m a w h₀;exact⟨e,a',w',hq,.of_steps (.one step_loop) C⟩
section
variable {P:pG}{g:Cfg}{N n:Nat}(hE:∀ f,f<N->g.ext.elem f=false->xT P f=true)(hm:P.follows .mixedOrders=true)
include hE hm
theorem fu:∀(c:Code),DL g N n c=true->∀(a:Act)(w:wD)(K:Exit->cW->wD->Prop),a.tmps.size=n->vc P g c (fS a) w K ->
   c.wp P (λe a' w'=>K e (fS a') w'/\kH n (wrs c) a a') a w:=by
 intro c
 induction c with
 |skip=>intro _ a w K hn h;exact wp_skip ⟨h,.refl _ hn⟩
 |ret=>intro _ a w K hn h;exact wp_ret ⟨h,.refl _ hn⟩
 |exit id=>intro _ a w K hn h;exact wp_exit ⟨h,.refl _ hn⟩
 | region id ops d=>
   intro C a w K hn h;simp only[DL,iA]at C;cases d with
   |false=>exact wp_region (zs1 hE C.1 _ a w hn h λa' w' hk hh=>⟨hh,hk⟩)
   | true=>
     simp only[vc]at h;cases hgd:find g.gpars id with
     |some mm=>
      simp only[hgd]at h;have ho:=C.2;simp only[hgd,cond_true]at ho;obtain⟨_,_,Q,hb,bs,sz,st,h1,h2⟩:=h;have Z:=ho;simp only[RO,iA,nG]at Z;have O:=Z.2;have g0:=xj (Q:=Q) (QQ:=λe a' w'=>K e (fS a') w'/\kH n (sQ ops.toList) a a') hE C.1 ho bs sz st h1 h2 (λa' w' hk hh=>⟨hh,hk⟩) ops.size (List.range ops.size) (Array.replicate ops.size false) a _ (λ_=>(0,0)) ss ⟨?_,?_,⟨ss,?_⟩,?_,hb,lr _,λ_ _=>rfl,?_,?_,?_,λ_ _ _ _ _ _=>rfl⟩ hn (.refl _ hn)
      ·exact wp_region_any hm g0
      ·exact Gb
      ·intro j;rw[rC];by_cases hj:j<ops.size<;>simp[hj]
      ·intro j o _ hj;by_cases hj':j<ops.size<;>simp[hj']at hj
      ·exact Bh (seen:=[]) ss (λi hi=>by simp at hi ⊢;omega) O
      ·intro j hj;by_cases hj':j<ops.size<;>simp[hj']at hj
      ·intro i _ hj _ _;by_cases hj':i<ops.size<;>simp[hj']at hj
      intro j hj;by_cases hj':j<ops.size<;>simp[hj']at hj
     |none=>
     simp only[hgd]at h;cases hpd:find g.pars id with
     |some x=>
      obtain⟨mm,p⟩:=x;simp only[hpd]at h;have ho:=C.2;simp only[hgd,hpd,cond_true]at ho;obtain⟨Q,st,h1,h2⟩:=h;have Z:=ho;simp only[IZ,iA,nG]at Z;have hpn:p<=ops.size:=QY Z.1.1.1.1.1.1;have O:=Z.1.2;have D:(List.range ops.size).take p++(List.range ops.size).drop p=List.range ops.size:=XN _ _;have V:p+((List.range ops.size).drop p).length=ops.size:=by simp;omega
      have g0:=ua (Q:=Q) (QQ:=λe a' w'=>K e (fS a') w'/\kH n (sQ ops.toList) a a') hE C.1 ho st h1 h2 (λa' w' hk hh=>⟨hh,hk⟩) p ((List.range ops.size).take p) (Array.replicate ops.size false) a _ (λ_=>(0,0)) so ⟨?_,?_,?_,?_,⟨ss,?_⟩,?_,aC _,λ_ _=>rfl,?_,?_,?_⟩ hn (.refl _ hn)
      ·rw[V]at g0;exact wp_region_any hm g0
      ·rw[D];exact Gb
      ·intro j;rw[D,rC];by_cases hj:j<ops.size<;>simp[hj]
      ·intro j hj;rw[List.mem_take_iff_getElem]at hj;obtain⟨i,hi,he⟩:=hj;simp at he;omega
      ·exact P5 (Bt _ _) Iv
      ·intro j o _ hj;by_cases hj':j<ops.size<;>simp[hj']at hj
      ·rw[D];exact Bh (seen:=[]) ss (λi hi=>by simp at hi ⊢;omega) O
      ·intro j _ hj;by_cases hj':j<ops.size<;>simp[hj']at hj
      ·intro i _ _ _ hj _ _;by_cases hj':i<ops.size<;>simp[hj']at hj
      intro j _ hj;by_cases hj':j<ops.size<;>simp[hj']at hj
     |none=>
     simp only[hpd]at h;cases hd:find g.draws id with
     |none=>simp[hd]at h
     | some x=>
       obtain⟨l,fl⟩:=x;simp only[hd]at h;have ho:=C.2;simp only[hgd,hpd,hd,cond_true,Ua,iA,nG,rC]at ho;obtain⟨⟨⟨⟨o1,o2⟩,o3⟩,o4⟩,o5⟩:=ho;have g1:=Dg o1;have M:∀j,j∈l↔j<ops.size:=λj=>⟨λhj=>QY (o2 j hj),λhj=>C0 (o3 j hj)⟩
       have V:l.length=ops.size:=by
         have h1:l.Perm (List.range ops.size):=(List.perm_ext_iff_of_nodup g1 Gb).2 λj=>by rw[M,rC]
         simpa using h1.length_eq
       obtain⟨xt,g2,h⟩:∃xt:Xt,xt.l=g.ext/\rV P xt ops.toList fl (K .normal) l (fS a) (World.drew1 w):=by
         cases hxs:g.xs.elem id
         ·rw[hxs]at h;exact⟨_,rfl,h⟩
         rw[hxs]at h;obtain⟨_,h⟩:=h;exact⟨_,rfl,h⟩
       refine wp_region_any hm (Ga (ext:=xt) (by rw[g2];exact hE) (by rw[g2];exact C.1) ops.size l _ a _ V g1 ?_ ⟨ss,?_⟩ ?_ o5 hn h λa' w' hk hh=>⟨hh,hk⟩)
       ·intro j;rw[M];by_cases hj:j<ops.size<;>simp[hj]
       ·intro j o _ hj;by_cases hj':j<ops.size<;>simp[hj']at hj
       exact Bh (seen:=[]) ss (λi hi=>by simpa using(M i).1 hi) o4
 | seq x y ihx ihy=>
   intro C a w K hn h;simp only[DL,iA]at C;obtain⟨⟨hx,hy⟩,hj⟩:=C;refine wp_seq ?_
   have fin:∀(e:Exit)(a1 a2:Act)(w2:wD),kH n (wrs x) a a1->K e (fS a2) w2/\kH n (wrs y) a1 a2->K e (fS a2) w2/\kH n (wrs (.seq x y)) a a2:=
     λe a1 a2 w2 k1 ⟨h2,k2⟩=>⟨h2,k1.trans k2 (λt ht=>EZ _ ht) (λt ht=>NP _ ht)⟩
   have out:∀(e:Exit)(a1:Act)(w1:wD),K e (fS a1) w1->kH n (wrs x) a a1->K e (fS a1) w1/\kH n (wrs (.seq x y)) a a1:=
     λe a1 w1 h1 k1=>⟨h1,k1.trans (.refl [] k1.size) (λt ht=>EZ _ ht) ss⟩
   simp only[vc]at h;cases hjn:(qA y).bind (find g.joins)with
   | none=>
     simp only[hjn]at h;refine wp_mono (ihx hx a w _ hn h) λe a1 w1 ⟨h1,k1⟩=>?_;cases e with
     |normal=>exact wp_mono (ihy hy a1 w1 K k1.size h1) λe a2 w2 h2=>fin e a1 a2 w2 k1 h2
     |_=>exact out _ _ _ h1 k1
   | some j=>
     obtain⟨m,L⟩:=j;simp only[hjn]at h hj;obtain⟨_,hb,hr⟩:=h;refine wp_mono (ihx hx a w _ hn hb) λe a1 w1 ⟨h1,k1⟩=>?_;cases e with
     | normal=>
       have h2:=hr (fS a1) w1 h1;rw[QE λt ht=>k1.env t λM=>by rw[nG.1 hj t M]at ht;cases ht]at h2;exact wp_mono (ihy hy a1 w1 K k1.size h2) λe a2 w2 h2=>fin e a1 a2 w2 k1 h2
     |_=>exact out _ _ _ h1 k1
 | cond c x y ihx ihy=>
   intro C a w K hn h;simp only[DL,iA]at C;simp only[vc,VQ]at h;obtain⟨b,hb,h⟩:=h;have g3:a.eval c=.bool b:=by rw[<-Ra];exact hb
   refine wp_cond g3 ?_;cases b with
   | true=>
     simp only[if_true]at h ⊢;rw[G6 hb]at h;exact wp_mono (ihx C.1 a w K hn h) λe a' w' ⟨h1,k1⟩=>⟨h1,k1.trans (.refl [] k1.size) (λt ht=>EZ _ ht) ss⟩
   | false=>
     simp only[DH,if_false]at h ⊢;rw[G6 hb]at h;exact wp_mono (ihy C.2 a w K hn h) λe a' w' ⟨h1,k1⟩=>⟨h1,k1.trans (.refl [] k1.size) (λt ht=>NP _ ht) ss⟩
 | block id c ih=>
   intro C a w K hn h;refine wp_block (wp_mono (ih C a w _ hn h) λe a' w' ⟨h1,k1⟩=>?_);cases e with
   | exit j=>
     simp only[Exit.inBlock,PG]at h1 ⊢;by_cases hji:j=id
     ·subst hji;simp only[Nat.beq_refl,cond_true]at h1;simp only[if_true];exact⟨h1,k1⟩
     have:Nat.beq j id=false:=by rw[Bool.eq_false_iff];exactλe=>hji (UC e)
     rw[this]at h1;simp only[hji,if_false];exact⟨h1,k1⟩
   |_=>exact⟨h1,k1⟩
 | loop c ih=>
   intro C a w K hn h;simp only[DL,iA]at C;simp only[vc]at h;cases hl:(qA c).bind (find g.loops)with
   |none=>simp[hl]at h
   | some x=>
     obtain⟨m,L⟩:=x;simp only[hl]at h;have hj:=C.2;simp only[hl]at hj;obtain⟨I,m0,h0,hr⟩:=h;refine fo (λm a' w'=>I m (L.map (fS a')) w'/\kH n (wrs c) a a') m0 ⟨h0,.refl _ hn⟩ ?_;intro m1 a1 w1 ⟨h1,k1⟩;have h2:=hr m1 (fS a1) w1 h1;rw[QE λt ht=>k1.env t λM=>by rw[nG.1 hj t M]at ht;cases ht]at h2;refine wp_mono (ih C.1 a1 w1 _ k1.size h2) λe a2 w2 ⟨h3,k2⟩=>?_;cases e with
     | normal=>
       obtain⟨m',g4,h4⟩:=h3;exact⟨m',g4,h4,k1.trans k2 (λ_ h=>h) (λ_ h=>h)⟩
     |_=>exact⟨h3,k1.trans k2 (λ_ h=>h) (λ_ h=>h)⟩
 |_=>intro _ a w K hn h;exact(show False from h).elim
end
def ZW(tmps:Array vL):ResultVar->Sem vL
 |.tmp t=>pure (tmps.getD t undef)
 |.cell a t=>do loadVar t (<-asAddr (tmps.getD a undef))
theorem Ix{P:pG}{a:Act}{w:wD}:∀(rs:List ResultVar)(k:List vL->Prop),zA P (fS a) w rs k ->
   ∃vs,(rs.mapM (ZW a.tmps)).run P w=.ok vs w/\k vs
 |[],k,h=>⟨[],ss,h⟩
 | .tmp t :: r,k,h=>by
   obtain⟨vs,hr,hk⟩:=Ix r _ h;exact⟨_,by simp only[En,ZW,Sem.run_bind,Sem.run_pure,Result.andThen_ok,hr];rfl,hk⟩
 | .cell ad t :: r,k,h=>by
   obtain⟨v,hv,h⟩:=h;obtain⟨vs,hr,hk⟩:=Ix r _ h;have hv':=hv w (aC w);unfold qP fS at hv';exact⟨_,by simp only[En];rw[Sem.run_bind,show(ZW a.tmps (.cell ad t)).run P w=_ from hv'];simp only[Result.andThen_ok,Sem.run_bind,hr,Sem.run_pure],hk⟩
theorem b8{fn:Func}{a:Act}{R:vL->wD->Prop}(h:zA P (fS a) w fn.results.toList λvs=>R (one vs) w) :
   ∃v,(results fn a.tmps).run P w=.ok v w/\R v w:=by
 obtain⟨vs,hr,hk⟩:=Ix _ _ h;refine⟨one vs,?_,hk⟩
 have he:results fn a.tmps=(do let vs <-fn.results.mapM (ZW a.tmps);pure (if h:vs.size=1 then vs[0]else .tuple vs)):=by
   unfold results;congr 1
 rw[he,Qo];simp only[Sem.run_bind,map_eq_pure_bind,hr,Result.andThen_ok,Sem.run_pure]
 match vs with
 |[]=>rfl
 |[v]=>rfl
 |_ :: _ :: _=>rfl
def Jq(g:Cfg)(N:Nat)(fn:Func):Bool:=match fn.body with|some c=>DL g N fn.ntmps c|none=>false
theorem kp{g:Cfg}(hE:∀ f,f<N->g.ext.elem f=false->xT P f=true)(hm:P.follows .mixedOrders=true)
   {f:FuncId} {fn:Func} {args:List vL} {w:wD} {R:vL->wD->Prop} (hf:P.funcs[f]?=some fn) (hl:args.length<=fn.ntmps) (g0:Jq g N fn=true)
   (h:Ag P g fn args w R):aJ P f args w R:=by
 unfold Ag at h;unfold Jq at g0;cases hb:fn.body with
 |none=>simp[hb]at h
 | some c=>
   simp only[hb]at h g0;refine⟨calls_of_wp hf hb ?_⟩
   have g1:fS { tmps:=args.toArray++Array.replicate (fn.ntmps-args.toArray.size) undef,defers:=[] }=OV args:=by
     funext t;unfold fS OV;rw[HL];simp only[Array.getD_eq_getD_getElem?,GU];rcases kR t args.length with ht|ht
     ·rw[Array.getElem?_append_left (by simpa using ht)];simp[ht]
     rw[Array.getElem?_append_right (by simpa using ht)];simp only[List.getElem?_eq_none ht,Array.getElem?_replicate];split<;>rfl
   rw[<-g1]at h;refine wp_mono (fu hE hm c g0 _ w _ so h) λe a' _ ⟨h1,k1⟩=>?_;have hd:a'.defers=[]:=k1.defers;cases e with
   | normal=>
     obtain⟨v,hv,hR⟩:=b8 h1;exact⟨hd,v,hv,v,rfl,hR⟩
   | ret=>
     obtain⟨v,hv,hR⟩:=b8 h1;exact⟨hd,v,hv,v,rfl,hR⟩
   |_=>exact(show False from h1).elim
end Go.Sh
namespace Go.Sh
open Go.RowKit (Below)
def bR(x:Int):Prop:=-9223372036854775808<=x/\x<=9223372036854775807
theorem io{p:Prop}(h:p:=by unfold bR;omega):p:=h
def eB:maxLen=9223372036854775807:=rfl
class Rep (α:Type) where
 size:Nat
 agg:Bool
 rep:List Nat->wD->List vL->α->Prop
 pos:0<size
 sz:agg=false->size=1
 len:∀{F w cs x},rep F w cs x->cs.length=size
 one:∀{F w cs x},rep F w cs x->∀v∈cs,v.oneCell'=true
 keep:∀{F w w' cs x},rep F w cs x->(∀b∈F,w'.heap[b]?=w.heap[b]?)->rep F w' cs x
 lt:∀{F w cs x},rep F w cs x->∀b∈F,b<w.heap.size
open Rep (rep)
def fF(α:Type)[Rep α](cs:List vL):vL:=bif Rep.agg α then .agg cs.toArray else cs.headD undef
section
variable {α β:Type}[Rep α][Rep β]
def Is(w:wD)(v:vL)(x:α):Prop:=∃F cs,rep F w cs x/\v=fF α cs
def At(w:wD)(b o:Nat)(x:α):Prop:=∃F cs,rep F w cs x/\w.rangeAt b o cs
def nC(F:List Nat)(w:wD)(v:vL)(x:α):Prop:=∃cs,rep F w cs x/\v=fF α cs
def Wr(F:List Nat)(w:wD):Prop:=∀b∈F,∃c e,w.heap[b]?=some (.cells c e (0,0))
structure aZ(F:List Nat)(w:wD)(v:vL)(x:α):Prop where
 own:nC F w v x
 nodup:F.Nodup
 wr:Wr F w
def eG(lo:Nat)(w:wD)(v:vL)(x:α):Prop:=∃F,aZ F w v x/\∀b∈F,lo<=b
def aB.heap{w w':wD}(h:aB w w'){b:Nat}(hb:b<w.heap.size):w'.heap[b]?=w.heap[b]?:=h.block b hb
def rH{F:List Nat}{w w':wD}{cs:List vL}{x:α}(h:rep F w cs x)(hx:aB w w'):rep F w' cs x:=
 Rep.keep h λb hb=>hx.heap (Rep.lt h b hb)
def JG{w:wD}{b o:Nat}{cs:List vL}(h:w.rangeAt b o cs)(hc:0<cs.length):b<w.heap.size:=by
 have:=h 0 cs[0] (by simp[hc]);exact World.block_lt_of_cell? w _ this
def yT{w w':wD}{b o:Nat}{cs:List vL}(h:w.rangeAt b o cs)(hb:w'.heap[b]?=w.heap[b]?):w'.rangeAt b o cs:=
 λj v hv=>by rw[World.cell?_of_block (w:=w) hb];exact h j v hv
def yV{w w':wD}{b o:Nat}{cs:List vL}(h:w.rangeAt b o cs)(hx:aB w w'):w'.rangeAt b o cs:=by
 intro j v hv;have hb:=World.block_lt_of_cell? w _ (h j v hv);rw[World.cell?_of_block (w:=w) (hx.heap hb)];exact h j v hv
def Is.ext{w w':wD}{v:vL}{x:α}(h:Is w v x)(hx:aB w w'):Is w' v x:=by
 obtain⟨F,cs,hr,hv⟩:=h;exact⟨F,cs,rH hr hx,hv⟩
def At.ext{w w':wD}{b o:Nat}{x:α}(h:At w b o x)(hx:aB w w'):At w' b o x:=by
 obtain⟨F,cs,hr,hv⟩:=h;exact⟨F,cs,rH hr hx,yV hv hx⟩
def nC.ext{F:List Nat}{w w':wD}{v:vL}{x:α}(h:nC F w v x)(hx:aB w w'):nC F w' v x:=by
 obtain⟨cs,hr,hv⟩:=h;exact⟨cs,rH hr hx,hv⟩
def nC.keep{F:List Nat}{w w':wD}{v:vL}{x:α}(h:nC F w v x)(hx:∀ b∈F,w'.heap[b]?=w.heap[b]?):nC F w' v x:=by
 obtain⟨cs,hr,hv⟩:=h;exact⟨cs,Rep.keep hr hx,hv⟩
def nC.is{F:List Nat}{w:wD}{v:vL}{x:α}(h:nC F w v x):Is w v x:=by
 obtain⟨cs,hr,hv⟩:=h;exact⟨F,cs,hr,hv⟩
def nC.lt{F:List Nat}{w:wD}{v:vL}{x:α}(h:nC F w v x):∀b∈F,b<w.heap.size:=by
 obtain⟨_,hr,_⟩:=h;exact Rep.lt hr
def Wr.keep{F:List Nat}{w w':wD}(h:Wr F w)(hk:∀ b∈F,w'.heap[b]?=w.heap[b]?):Wr F w':=λb hb=>by
 obtain⟨c,e,he⟩:=h b hb;exact⟨c,e,by rw[hk b hb];exact he⟩
def Wr.lt{F:List Nat}{w:wD}(h:Wr F w):∀b∈F,b<w.heap.size:=λb hb=>by
 obtain⟨c,e,he⟩:=h b hb;exact(Array.getElem?_eq_some_iff.1 he).1
def Wr.ext{F:List Nat}{w w':wD}(h:Wr F w)(hx:aB w w'):Wr F w':=h.keep λb hb=>hx.heap (h.lt b hb)
def Wr.nil(w:wD):Wr [] w:=λb hb=>by cases hb
def Wr.append{F G:List Nat}{w:wD}(h:Wr F w)(k:Wr G w):Wr (F++G) w:=λb hb=>by
 rcases dF.1 hb with hb|hb
 ·exact h b hb
 exact k b hb
def Wr.sub{F G:List Nat}{w:wD}(h:Wr F w)(hs:∀ b∈G,b∈F):Wr G w:=λb hb=>h b (hs b hb)
def aZ.keep{F:List Nat}{w w':wD}{v:vL}{x:α}(h:aZ F w v x)(hk:∀ b∈F,w'.heap[b]?=w.heap[b]?):aZ F w' v x:=⟨h.own.keep hk,h.nodup,h.wr.keep hk⟩
def aZ.ext{F:List Nat}{w w':wD}{v:vL}{x:α}(h:aZ F w v x)(hx:aB w w'):aZ F w' v x:=⟨h.own.ext hx,h.nodup,h.wr.ext hx⟩
def aZ.is{F:List Nat}{w:wD}{v:vL}{x:α}(h:aZ F w v x):Is w v x:=h.own.is
def aZ.lt{F:List Nat}{w:wD}{v:vL}{x:α}(h:aZ F w v x):∀b∈F,b<w.heap.size:=h.own.lt
def eG.ext{lo:Nat}{w w':wD}{v:vL}{x:α}(h:eG lo w v x)(hx:aB w w'):eG lo w' v x:=by
 obtain⟨F,hm,hl⟩:=h;exact⟨F,hm.ext hx,hl⟩
def eG.is{lo:Nat}{w:wD}{v:vL}{x:α}(h:eG lo w v x):Is w v x:=by
 obtain⟨_,hm,_⟩:=h;exact hm.is
def eG.mono{lo g0:Nat}{w:wD}{v:vL}{x:α}(h:eG lo w v x)(hl:g0<=lo):eG g0 w v x:=by
 obtain⟨F,hm,hb⟩:=h;exact⟨F,hm,λb g1=>eH hl (hb b g1)⟩
end
instance:Rep Int where
 size:=1
 agg:=false
 rep F _ cs x:=F=[]/\cs=[iV x]/\bR x
 pos:=by decide
 sz _:=rfl
 len:=by rintro _ _ _ _ ⟨_,rfl,_⟩;rfl
 one:=by rintro _ _ _ _ ⟨_,rfl,_⟩ v hv;simp at hv;subst hv;rfl
 keep:=by rintro _ _ _ _ _ h _;exact h
 lt:=by rintro _ _ _ _ ⟨rfl,_⟩ b hb;cases hb
instance:Rep Bool where
 size:=1
 agg:=false
 rep F _ cs x:=F=[]/\cs=[.bool x]
 pos:=by decide
 sz _:=rfl
 len:=by rintro _ _ _ _ ⟨_,rfl⟩;rfl
 one:=by rintro _ _ _ _ ⟨_,rfl⟩ v hv;simp at hv;subst hv;rfl
 keep:=by rintro _ _ _ _ _ h _;exact h
 lt:=by rintro _ _ _ _ ⟨rfl,_⟩ b hb;cases hb
instance:Rep ByteArray where
 size:=1
 agg:=false
 rep F _ cs x:=F=[]/\cs=[.string x]/\x.size<=maxLen
 pos:=by decide
 sz _:=rfl
 len:=by rintro _ _ _ _ ⟨_,rfl,_⟩;rfl
 one:=by rintro _ _ _ _ ⟨_,rfl,_⟩ v hv;simp at hv;subst hv;rfl
 keep:=by rintro _ _ _ _ _ h _;exact h
 lt:=by rintro _ _ _ _ ⟨rfl,_⟩ b hb;cases hb
instance{α β:Type}[Rep α][Rep β]:Rep (α×β) where
 size:=Rep.size α+Rep.size β
 agg:=true
 rep F w cs x:=∃F1 F2 c1 c2,F=F1++F2/\cs=c1++c2/\rep F1 w c1 x.1/\rep F2 w c2 x.2
 pos:=by have:=Rep.pos (α:=α);omega
 sz h:=by cases h
 len:=by rintro _ _ _ _ ⟨F1,F2,c1,c2,rfl,rfl,h1,h2⟩;rw[bX,Rep.len h1,Rep.len h2]
 one:=by
   rintro _ _ _ _ ⟨F1,F2,c1,c2,rfl,rfl,h1,h2⟩ v hv;rcases dF.1 hv with hv|hv
   · exact Rep.one h1 v hv
   exact Rep.one h2 v hv
 keep:=by
   rintro _ _ _ _ _ ⟨F1,F2,c1,c2,rfl,rfl,h1,h2⟩ hk;exact⟨F1,F2,c1,c2,rfl,rfl,Rep.keep h1 λb hb=>hk b (by simp[hb]),Rep.keep h2 λb hb=>hk b (by simp[hb])⟩
 lt:=by
   rintro _ _ _ _ ⟨F1,F2,c1,c2,rfl,rfl,h1,h2⟩ b hb;rcases dF.1 hb with hb|hb
   · exact Rep.lt h1 b hb
   exact Rep.lt h2 b hb
@[reducible] def Rep.via {α β:Type} [Rep β] (f:α->β):Rep α where
 size:=Rep.size β
 agg:=true
 rep F w cs x:=rep F w cs (f x)
 pos:=Rep.pos
 sz h:=by cases h
 len h:=Rep.len h
 one h:=Rep.one h
 keep h:=Rep.keep h
 lt h:=Rep.lt h
def aO{α:Type}[Rep α]:List Nat->wD->List vL->List α->Prop
 |F,_,xs,[]=>F=[]/\xs=[]
 |F,w,xs,y :: ys=>∃F1 F2 c1 c2,F=F1++F2/\xs=c1++c2/\rep F1 w c1 y/\aO F2 w c2 ys
section
variable {α:Type}[Rep α]
theorem aO.len{w:wD}:∀{l:List α}{F:List Nat}{xs:List vL},aO F w xs l->xs.length=l.length*Rep.size α
 |[],_,_,⟨_,h⟩=>by simp[h]
 |y :: ys,_,_,⟨F1,F2,c1,c2,_,h,h1,h2⟩=>by rw[h,bX,Rep.len h1,aO.len h2,dA,xM];omega
theorem aO.one{w:wD}:∀{l:List α}{F:List Nat}{xs:List vL},aO F w xs l->∀v∈xs,v.oneCell'=true
 |[],_,_,⟨_,h⟩,v,hv=>by rw[h]at hv;cases hv
 | y :: ys,_,_,⟨F1,F2,c1,c2,_,h,h1,h2⟩,v,hv=>by
   rw[h]at hv;rcases dF.1 hv with hv|hv
   ·exact Rep.one h1 v hv
   exact aO.one h2 v hv
theorem aO.keep{w w':wD}:∀{l:List α}{F:List Nat}{xs:List vL},aO F w xs l->(∀b∈F,w'.heap[b]?=w.heap[b]?)->aO F w' xs l
 |[],_,_,h,_=>h
 | y :: ys,_,_,⟨F1,F2,c1,c2,hF,h,h1,h2⟩,hk=>
   ⟨F1,F2,c1,c2,hF,h,Rep.keep h1 λb hb=>hk b (by rw[hF];simp[hb]),aO.keep h2 λb hb=>hk b (by rw[hF];simp[hb])⟩
theorem aO.lt{w:wD}:∀{l:List α}{F:List Nat}{xs:List vL},aO F w xs l->∀b∈F,b<w.heap.size
 |[],_,_,⟨h,_⟩,b,hb=>by rw[h]at hb;cases hb
 | y :: ys,_,_,⟨F1,F2,c1,c2,hF,h,h1,h2⟩,b,hb=>by
   rw[hF]at hb;rcases dF.1 hb with hb|hb
   ·exact Rep.lt h1 b hb
   exact aO.lt h2 b hb
theorem aO.append{w:wD}:∀{l m:List α}{F G:List Nat}{xs ys:List vL},aO F w xs l->aO G w ys m->aO (F++G) w (xs++ys) (l++m)
 |[],_,_,_,_,_,⟨hF,hx⟩,k=>by subst hF hx;exact k
 | y :: l,_,_,_,_,_,⟨F1,F2,c1,c2,hF,hx,h1,h2⟩,k=>by
   subst hF hx;exact⟨F1,F2++_,c1,c2++_,ss,ss,h1,aO.append h2 k⟩
theorem aO.split{w:wD}:∀{l m:List α}{F:List Nat}{xs:List vL},aO F w xs (l++m)->∃F1 F2 x1 x2,F=F1++F2/\xs=x1++x2/\aO F1 w x1 l/\aO F2 w x2 m
 |[],_,F,xs,h=>⟨[],F,[],xs,rfl,rfl,⟨rfl,rfl⟩,h⟩
 | y :: l,m,_,_,⟨F1,F2,c1,c2,hF,hx,h1,h2⟩=>by
   obtain⟨G1,G2,x1,x2,rfl,rfl,k1,k2⟩:=aO.split h2;exact⟨F1++G1,G2,c1++x1,x2,by simp[hF],by simp[hx],⟨F1,G1,c1,x1,rfl,rfl,h1,k1⟩,k2⟩
def aO.single{w:wD}{F:List Nat}{cs:List vL}{x:α}(h:rep F w cs x):aO F w cs [x]:=⟨F,[],cs,[],ss,ss,h,rfl,rfl⟩
end
instance{α:Type}[Rep α]:Rep (List α) where
 size:=1
 agg:=false
 rep F w cs l:=∃a cap Fi xs,cs=[.slice a l.length cap]/\l.length<=cap/\cap<=maxLen/\aO Fi w xs l /\
   ((l=[]/\F=[])\/∃b o,a=some ⟨b,o,none⟩/\F=b :: Fi/\w.rangeAt b o xs/\b<w.heap.size)
 pos:=by decide
 sz _:=rfl
 len:=by rintro _ _ _ _ ⟨_,_,_,_,rfl,_⟩;rfl
 one:=by rintro _ _ _ _ ⟨_,_,_,_,rfl,_⟩ v hv;simp at hv;subst hv;rfl
 keep:=by
   rintro _ _ _ _ _ ⟨a,cap,Fi,xs,hcs,h1,h2,hc,h⟩ hk;rcases h with⟨rfl,rfl⟩|⟨b,o,ha,hF,hr,hb⟩
   · exact⟨a,cap,Fi,xs,hcs,h1,h2,hc,.inl ⟨rfl,rfl⟩⟩
   subst hF;have hbb:=hk b (by simp);refine⟨a,cap,Fi,xs,hcs,h1,h2,aO.keep hc λc hc=>hk c (by simp[hc]),.inr ⟨b,o,ha,rfl,yT hr hbb,?_⟩⟩;rcases kR b (Array.size (World.heap _))with h'|h'
   · exact h'
   rw[Array.getElem?_eq_none h']at hbb;simp[Array.getElem?_eq_getElem hb]at hbb
 lt:=by
   rintro _ _ _ _ ⟨a,cap,Fi,xs,hcs,h1,h2,hc,h⟩ c hm;rcases h with⟨rfl,rfl⟩|⟨b,o,ha,hF,hr,hb⟩
   · cases hm
   subst hF;rcases bF.1 hm with rfl|hm
   · exact hb
   exact aO.lt hc c hm
end Go.Sh
namespace Go.Sh
open Go.RowKit (Below)
open Rep (rep)
variable {L:List Nat}{w:wD}
def br{p:Prop}[Decidable p]{kt kf:Prop}(h1:p->kt)(h2:¬p->kf):BR (.bool (decide p)) kt kf:=by
 by_cases h:p
 ·simp only[h,uN];exact h1 h
 simp only[h,eT];exact h2 h
def bW{b:Bool}{kt kf:Prop}(h1:b=true->kt)(h2:b=false->kf):BR (.bool b) kt kf:=by
 cases b
 ·exact h2 rfl
 exact h1 rfl
def gbr{p:Prop}[Decidable p]{kt kf ks:Prop}(h1:p->kt)(h2:¬p->kf):AV (.bool (decide p)) kt kf ks:=by
 by_cases h:p
 ·simp only[h,uN];exact h1 h
 simp only[h,eT];exact h2 h
def XQ{b:Bool}{kt kf ks:Prop}(h1:b=true->kt)(h2:b=false->kf):AV (.bool b) kt kf ks:=by
 cases b
 ·exact h2 rfl
 exact h1 rfl
def bV{init:List vL}{body:cW->wD->(List vL->wD->Prop)->Prop}(n:Nat)(I:Nat->List vL->wD->Prop)(k0:Nat)(hk:k0<=n)(h0:I k0 init w)
   (hr:∀k m u w',k+m=n->I k (L.map u) w'->body u w' (λus w''=>∃m',m'<m/\∃k',k'+m'=n/\I k' us w'')):iB L init w body:=
 .mk (λm us w=>∃k,k+m=n/\I k us w) (n-k0) ⟨k0,oo,h0⟩ (λm u w' ⟨k,hk,h⟩=>hr k m u w' hk h)
section
variable {P:pG}{w w0:wD}{K:vL->Prop}
def dY{m:Sem vL}{v:vL}(h:∀ w',aB w w'->m.run P w'=.ok v w')(k:K v):RD P m w K:=⟨v,h,k⟩
section bN
variable {t:TypeId}{x y:Operand}{a b:Int}{kd:IntKind}
def bM(k:K (.bool (decide (a<b)))):RD P (bin .lss t x y (.int kd a) (.int kd b)) w K:=dY (λw' _=>by simp[bin,eqGuard,binOp,Op.intCmp]) k
def tR(k:K (.bool (decide (a<=b)))):RD P (bin .leq t x y (.int kd a) (.int kd b)) w K:=dY (λw' _=>by simp[bin,eqGuard,binOp,Op.intCmp]) k
def oN(k:K (.bool (decide (b<a)))):RD P (bin .gtr t x y (.int kd a) (.int kd b)) w K:=dY (λw' _=>by simp[bin,eqGuard,binOp,Op.intCmp]) k
def pD(k:K (.bool (decide (b<=a)))):RD P (bin .geq t x y (.int kd a) (.int kd b)) w K:=dY (λw' _=>by simp[bin,eqGuard,binOp,Op.intCmp]) k
def bI(k:K (.bool (decide (a=b)))):RD P (bin .eql t x y (.int kd a) (.int kd b)) w K:=
 dY (λw' _=>by simp[bin,eqGuard,binOp,Op.intCmp];rfl) k
def fP(k:K (.bool (decide (a≠b)))):RD P (bin .neq t x y (.int kd a) (.int kd b)) w K:=
 dY (λw' _=>by simp[bin,eqGuard,binOp,Op.intCmp];rfl) k
def rQ(h:bR (a+b))(k:K (iV (a+b))):RD P (bin .add t x y (iV a) (iV b)) w K:=
 dY (λw' _=>by simp[bin,eqGuard,binOp,Op.intArith,IntWalk.i64_in _ h]) k
def kQ(h:bR (a-b))(k:K (iV (a-b))):RD P (bin .sub t x y (iV a) (iV b)) w K:=
 dY (λw' _=>by simp[bin,eqGuard,binOp,Op.intArith,IntWalk.i64_in _ h]) k
def UP(h:bR (a*b))(k:K (iV (a*b))):RD P (bin .mul t x y (iV a) (iV b)) w K:=
 dY (λw' _=>by simp[bin,eqGuard,binOp,Op.intArith,IntWalk.i64_in _ h]) k
def K4{n:Nat}(h:n<9223372036854775807)(k:K (iV ((n+1:Nat):Int))):RD P (bin .add t x y (iV n) (iV 1)) w K:=
 rQ io (by simpa using k)
def Ic(hb:b≠0)(k:K (.int kd (a.tmod b))):RD P (bin .rem t x y (.int kd a) (.int kd b)) w K:=
 dY (λw' _=>by simp[bin,eqGuard,binOp,Op.intDiv,hb]) k
def xB{m n:Nat}(hm:m<4611686018427387904)(hn:n<4611686018427387904)(k:K (iV ((m ||| n:Nat):Int))):RD P (bin .or t x y (iV m) (iV n)) w K:=by
 have:m ||| n<2^62:=zO hm hn;refine dY (λw' _=>?_) k;have e1:IntKind.i64.wrap ((m ||| n:Nat):Int)=((m ||| n:Nat):Int):=IntWalk.i64_in _ oo
 have e2:((BitVec.ofInt 64 (m:Int)) ||| (BitVec.ofInt 64 (n:Int))).toNat=m ||| n:=by
   simp only[BitVec.toNat_or,BitVec.ofInt_natCast,BitVec.toNat_ofNat];rw[EF oo,EF oo]
 show(do eqGuard .or t x y (iV m) (iV n);binOp .or t (iV m) (iV n):Sem vL).run P w'=_;simp only[eqGuard,binOp,Op.intBits];show Result.ok (Value.int .i64 (IntKind.i64.wrap (((BitVec.ofInt 64 (m:Int)) ||| (BitVec.ofInt 64 (n:Int))).toNat:Nat))) w'=_;rw[e2,e1]
def DM{n:Nat}{ku:IntKind}(hn:n<62)(k:K (iV ((2^n:Nat):Int))):RD P (bin .shl t x y (iV 1) (.int ku (n:Int))) w K:=by
 refine dY (λw' _=>?_) k;have hp:(2^n:Nat)<4611686018427387904:=CX oo hn;have e1:IntKind.i64.wrap ((2^n:Nat):Int)=((2^n:Nat):Int):=by generalize 2^n=q at hp;exact IntWalk.i64_in _ oo
 have e0:¬((n:Int)<0):=oo;have e2:min n 64=n:=oo;show(do eqGuard .shl t x y (iV 1) (.int ku (n:Int));binOp .shl t (iV 1) (.int ku (n:Int)):Sem vL).run P w'=_;simp only[eqGuard,binOp,Op.shift,e0,if_false,qM];show Result.ok (Value.int .i64 (IntKind.i64.wrap ((1:Int)*2^(min n 64)))) w'=_;rw[e2,<-e1];simp
def sN{g0 dst:TypeId}{n:Nat}(hs:(P.underlying g0).isSome=true)(hd:P.underlying dst=some (.int .u64))(hn:n<9223372036854775808)(k:K (.int .u64 (n:Int))):RD P (convert g0 dst (iV n)) w K:=by
 refine dY (λ_ _=>?_) k;obtain⟨_,g1⟩:=Option.isSome_iff_exists.mp hs;have:IntKind.u64.wrap (n:Int)=n:=by simp[IntKind.wrap,IntKind.signed,IntKind.bits];omega
 simp[convert,run_underlying g1,run_underlying hd,Conv.intToInt,this]
end bN
def dG{b:Bool}(k:K (.bool (!b))):RD P (Op.unary .not (.bool b)) w K:=dY (λ_ _=>rfl) k
def mL{p:Prop}[Decidable p](k:K (.bool (decide (¬p)))):RD P (Op.unary .not (.bool (decide p))) w K:=
 dY (λw' _=>by simp[Op.unary]) k
def Ri{t e:TypeId}{x y:Operand}{a:Option Addr}{n c:Nat}(ht:P.underlying t=some (.slice e))(k:K (.bool a.isNone)):RD P (bin .eql t x y (.slice a n c) (.slice none 0 0)) w K:=
 dY (λw' _=>by simp only[bin,eqGuard,binOp];simp[run_equal_slice_nil w' t e a n c ht]) k
def fO{vs:Array vL}{i:Nat}{v:vL}(h:vs[i]?=some v)(k:K v):RD P (Instr.extract (.tuple vs) i) w K:=
 dY (λw' _=>by simp[Instr.extract,h]) k
def zGG{v:vL}{x:Int}:Is w v x↔v=iV x/\bR x:=by
 constructor
 ·rintro⟨_,_,⟨_,rfl,h⟩,rfl⟩;exact⟨rfl,h⟩
 rintro⟨rfl,h⟩;exact⟨[],_,⟨rfl,rfl,h⟩,rfl⟩
def te{v:vL}{x:Bool}:Is w v x↔v=.bool x:=by
 constructor
 ·rintro⟨_,_,⟨_,rfl⟩,rfl⟩;rfl
 rintro rfl;exact⟨[],_,⟨rfl,rfl⟩,rfl⟩
def qn{v:vL}{x:ByteArray}:Is w v x↔v=.string x/\x.size<=maxLen:=by
 constructor
 ·rintro⟨_,_,⟨_,rfl,h⟩,rfl⟩;exact⟨rfl,h⟩
 rintro⟨rfl,h⟩;exact⟨[],_,⟨rfl,rfl,h⟩,rfl⟩
section strings
def aW(s:ByteArray):List UInt8:=s.data.toList
def dO(s:ByteArray):(aW s).length=s.size:=by simp[aW]
def MZ{a b:ByteArray}(h:aW a=aW b):a=b:=by
 obtain⟨⟨_⟩⟩:=a;obtain⟨⟨_⟩⟩:=b;simp only[aW]at h;rw[h]
instance decMemBA:∀(s:ByteArray)(l:List ByteArray),Decidable (s∈l)
 |s,[]=>isFalse (by simp)
 | s,x :: l=>if h:s=x then isTrue (by simp[h])else match decMemBA s l with
   |isTrue h'=>isTrue (by simp[h'])
   |isFalse h'=>isFalse (by simp[h,h'])
def xA{t ty:TypeId}{s:ByteArray}(ht:P.underlying t=some .string)(k:K (iV (s.size:Int))):RD P (Builtin.len_ #[t] ty [Value.string s].toArray) w K:=
 dY (λw' _=>by simp[Builtin.len_,run_underlying ht];rfl) k
def uG{t:TypeId}{s:ByteArray}{i:Nat}(ht:P.underlying t=some .string)(hi:i<s.size)(k:K (.int .u8 (((aW s)[i]'(by rw[dO];exact hi)).toNat:Int))):RD P (Instr.index t (.string s) (iV i)) w K:=by
 refine dY (λ_ _=>?_) k
 have h1:s[i]?=some ((aW s)[i]'(by rw[dO];exact hi)):=by
   rw[getElem?_pos s i hi];rfl
 simp[Instr.index,asIntOf,run_underlying ht,h1]
def Rh(a b:ByteArray):(a.toList == b.toList)=decide (a=b):=by
 rw[ByteArray.toList_eq,ByteArray.toList_eq];by_cases h:a=b
 ·subst h;simp
 have:¬a.data.toList=b.data.toList:=λe=>h (MZ e);simp only[h,eT];simpa using this
def eX{t:TypeId}{x y:Operand}{a b:ByteArray}(k:K (.bool (decide (a=b)))):RD P (bin .eql t x y (.string a) (.string b)) w K:=
 dY (λw' _=>by simp only[bin,eqGuard,binOp,Op.stringOp,Rh];rfl) k
def GK{t:TypeId}{x y:Operand}{a b:ByteArray}(k:K (.bool (decide (a≠b)))):RD P (bin .neq t x y (.string a) (.string b)) w K:=
 dY (λw' _=>by simp only[bin,eqGuard,binOp,Op.stringOp,Rh];simp) k
end strings
section data
variable {α β:Type}[Rep α][Rep β]
def xD{v:vL}{l:List α}(h:Is w v l):∃a cap Fi xs,v=.slice a l.length cap/\l.length<=cap/\cap<=maxLen/\aO Fi w xs l /\
   (l=[]\/∃b o,a=some ⟨b,o,none⟩/\w.rangeAt b o xs/\b<w.heap.size):=by
 obtain⟨_,_,⟨a,cap,Fi,xs,rfl,h1,h2,h3,h4⟩,rfl⟩:=h;refine⟨a,cap,Fi,xs,rfl,h1,h2,h3,?_⟩;rcases h4 with⟨h,_⟩|⟨b,o,ha,_,hr,hb⟩
 ·exact .inl h
 exact .inr ⟨b,o,ha,hr,hb⟩
def fD{v:vL}{l:List α}(h:Is w v l):l.length<=9223372036854775807:=by
 obtain⟨_,_,_,_,_,_,h2,_⟩:=xD h;rw[eB]at h2;omega
def zx{v:vL}(h:v=.slice none 0 0):Is w v ([]:List α):=by
 subst h;exact⟨[],_,⟨none,0,[],[],rfl,lr _,z0 _,⟨rfl,rfl⟩,.inl ⟨rfl,rfl⟩⟩,rfl⟩
def XO{lo:Nat}{v:vL}(h:v=.slice none 0 0):eG lo w v ([]:List α):=by
 subst h;exact⟨[],⟨⟨_,⟨none,0,[],[],rfl,lr _,z0 _,⟨rfl,rfl⟩,.inl ⟨rfl,rfl⟩⟩,rfl⟩,kM,Wr.nil w⟩,ss⟩
def aX{t ty e:TypeId}{v:vL}{l:List α}(ht:P.underlying t=some (.slice e))(h:Is w0 v l)(k:K (iV (l.length:Int))) :
   RD P (Builtin.len_ #[t] ty [v].toArray) w K:=by
 obtain⟨_,_,_,_,rfl,_⟩:=xD h;exact dY (λ_ _=>by simp[Builtin.len_,run_underlying ht];rfl) k
def wU{b o:Nat}{x y:List vL}(h:w.rangeAt b o (x++y)):w.rangeAt b o x/\w.rangeAt b (o+x.length) y:=by
 refine⟨λj v hv=>h j v ?_,λj v hv=>?_⟩
 ·rw[List.getElem?_append_left (List.getElem?_eq_some_iff.1 hv).1];exact hv
 have:=h (x.length+j) v (by rw[List.getElem?_append_right oo];simpa using hv);rwa[<-DU]at this
def Eh{b o:Nat}{x y:List vL}(h:w.rangeAt b o x)(k:w.rangeAt b (o+x.length) y):w.rangeAt b o (x++y):=by
 intro j v hv;rcases kR j x.length with hj|hj
 ·rw[List.getElem?_append_left hj]at hv;exact h j v hv
 rw[List.getElem?_append_right hj]at hv;have:=k (j-x.length) v hv;rwa[show o+x.length+(j-x.length)=o+j by omega]at this
def aO.at{F:List Nat}{xs:List vL}{l:List α}{b o i:Nat}(h:aO F w xs l)(hr:w.rangeAt b o xs)(hi:i<l.length):At w b (o+i*Rep.size α) l[i]:=by
 have e:l=l.take i++(l[i] :: l.drop (i+1)):=by simp
 rw[e]at h;obtain⟨_,_,x1,_,rfl,rfl,h1,h2⟩:=aO.split h;obtain⟨G1,_,c1,_,rfl,rfl,k1,_⟩:=h2;have hl:x1.length=i*Rep.size α:=by rw[aO.len h1,fY];congr 1;omega
 have:=wU (wU hr).2;rw[hl]at this;exact⟨G1,c1,k1,this.1⟩
def cT(P:pG)(t:TypeId):Option (Nat×Nat×Bool):=
 match P.info? t,P.underlying t with
 |some i,some d=>some (i.size,i.bytes,d.isRow)
 |_,_=>none
theorem xO{t s by_:Nat}{g:Bool}(h:cT P t=some (s,by_,g)):∃i d,P.info? t=some i/\P.underlying t=some d/\i.size=s/\i.bytes=by_/\d.isRow=g:=by
 unfold cT at h;cases hi:P.info? t with
 |none=>simp[hi]at h
 | some i=>
   cases hd:P.underlying t with
   |none=>simp[hi,hd]at h
   |some d=>simp only[hi,hd,iU,mV]at h;exact⟨i,d,rfl,rfl,h.1,h.2.1,h.2.2⟩
def qX{t s by_:Nat}{g:Bool}(h:cT P t=some (s,by_,g))(w:wD):(sizeOf t).run P w=.ok s w:=by
 obtain⟨_,_,hi,_,hs,_⟩:=xO h;simp[sizeOf,typeInfo,hi,hs]
def xY{t s by_:Nat}{g:Bool}(h:cT P t=some (s,by_,g))(w:wD):(isAgg t).run P w=.ok g w:=by
 obtain⟨_,d,_,hd,_,_,hg⟩:=xO h;unfold isAgg;rw[Sem.run_bind,run_underlying hd w];cases d<;>subst hg<;>simp
def KS{t e:TypeId}{b o n cap s by_:Nat}{g:Bool}{i:Int}(ht:P.underlying t=some (.slice e))(he:cT P e=some (s,by_,g))(h0:0<=i)(h1:i<n)(w:wD) :
   (Instr.indexAt t (.slice (some ⟨b,o,none⟩) n cap) (iV i)).run P w=.ok (pT b (o+i.toNat*s)) w:=by
 simp[Instr.indexAt,run_underlying ht,asIntOf,h0,h1,qX he,Addr.add_mid]
def wR{t e:TypeId}{by_:Nat}{v:vL}{l:List α}{i:Int}(ht:P.underlying t=some (.slice e))(he:cT P e=some (Rep.size α,by_,Rep.agg α))(h:Is w0 v l)(h0:0<=i)(h1:i.toNat<l.length)
   (k:∀b o,At w0 b o (l[i.toNat]'h1)->K (pT b o)):RD P (Instr.indexAt t v (iV i)) w K:=by
 obtain⟨_,_,_,_,rfl,_,_,hc,hh⟩:=xD h;rcases hh with rfl|⟨b,o,rfl,hr,_⟩
 ·simp at h1
 exact dY (λw' _=>KS ht he h0 oo w') (k _ _ (aO.at hc hr h1))
def bC{t e:TypeId}{by_:Nat}{v:vL}{l:List α}{i:Nat}(ht:P.underlying t=some (.slice e))(he:cT P e=some (Rep.size α,by_,Rep.agg α))(h:Is w0 v l)(h1:i<l.length)
   (k:∀b o,At w0 b o l[i]->K (pT b o)):RD P (Instr.indexAt t v (iV i)) w K:=
 wR ht he h oo (by simpa using h1) (λb o hA=>k b o (by simpa using hA))
theorem OK{t by_ b o:Nat}{F:List Nat}{cs:List vL}{x:α}(ht:cT P t=some (Rep.size α,by_,Rep.agg α))(hr:rep F w cs x)(hc:w.rangeAt b o cs) :
   (Instr.loadAt t (pT b o)).run P w=.ok (fF α cs) w:=by
 obtain⟨_,d,hi,hd,hs,_,hg⟩:=xO ht;have hl:=Rep.len hr;cases hag:Rep.agg α with
 | true=>
   rw[run_loadAt_mid w b o t cs d hc hd (by rw[hg,hag]) (by simp[hi,hs,hl])];simp[fF,hag]
 | false=>
   have h1:=Rep.sz hag;rw[h1]at hl;obtain⟨c,rfl⟩:=IR.1 hl;have h0:w.cell? ⟨b,o,none⟩=some c:=by simpa using hc 0 c rfl
   have hA:=xY ht w;rw[hag]at hA;simp[Instr.loadAt,Instr.sureAddr,loadVar,hA,h0,fF,hag]
def aL{t by_ b o:Nat}{x:α}(ht:cT P t=some (Rep.size α,by_,Rep.agg α))(h:At w0 b o x)(hx:aB w0 w)(k:∀ v,Is w0 v x->K v) :
   RD P (Instr.loadAt t (pT b o)) w K:=by
 obtain⟨F,cs,hr,hc⟩:=h;exact dY (λ_ g0=>OK ht (rH hr xx) (yV hc xx)) (k _ ⟨F,cs,hr,rfl⟩)
def Mv{t by_ b o:Nat}{F:List Nat}{cs:List vL}{x:α}(ht:cT P t=some (Rep.size α,by_,Rep.agg α))(hr:rep F w cs x)(hc:w.rangeAt b o cs)(k:K (fF α cs)) :
   RD P (Instr.loadAt t (pT b o)) w K:=
 dY (λw' hx'=>OK ht (rH hr hx') (yV hc hx')) k
def aS{t by_ b o:Nat}{x:Int}(ht:cT P t=some (1,by_,false))(h:At w0 b o x)(hx:aB w0 w)(k:bR x->K (iV x)) :
   RD P (Instr.loadAt t (pT b o)) w K:=
 aL (α:=Int) ht h hx λv hv=>by obtain⟨rfl,h⟩:=zGG.1 hv;exact k h
def eV{t by_ b o:Nat}{x:ByteArray}(ht:cT P t=some (1,by_,false))(h:At w0 b o x)(hx:aB w0 w)(k:x.size<=maxLen->K (.string x)) :
   RD P (Instr.loadAt t (pT b o)) w K:=
 aL (α:=ByteArray) ht h hx λv hv=>by obtain⟨rfl,h⟩:=qn.1 hv;exact k h
def iY{t by_ b o:Nat}{x:Bool}(ht:cT P t=some (1,by_,false))(h:At w0 b o x)(hx:aB w0 w)(k:K (.bool x)) :
   RD P (Instr.loadAt t (pT b o)) w K:=
 aL (α:=Bool) ht h hx λv hv=>by obtain rfl:=te.1 hv;exact k
def fG(P:pG)(t:TypeId)(i:Nat):Option Nat:=
 match P.underlying t with
 | some (.struct fs)=>match fs[i]? with
   | some f=>match P.info? f.type with
     |some j=>bif Nat.beq j.size 0 then none else some f.offset
     |none=>none
   |none=>none
 |_=>none
theorem aE{t i off b o:Nat}(hf:fG P t i=some off)(k:K (pT b (o+off))):RD P (Instr.fieldAt t (pT b o) i) w K:=by
 refine dY (λ_ _=>?_) k;unfold fG at hf;cases hu:P.underlying t with
 |none=>simp[hu]at hf
 | some d=>
   cases d with
   | struct fs=>
     simp only[hu]at hf;cases hfi:fs[i]? with
     |none=>simp[hfi]at hf
     | some f=>
       simp only[hfi]at hf;cases hin:P.info? f.type with
       |none=>simp[hin]at hf
       | some j=>
         simp only[hin]at hf;cases hb:Nat.beq j.size 0 with
         |true=>simp[hb]at hf
         | false=>
           simp only[hb,cond_false,iU]at hf;have g0:¬j.size=0:=λe=>by rw[e]at hb;cases hb
           subst hf;simp[Instr.fieldAt,run_underlying hu,hfi,Instr.sureAddr,fieldPlace,sizeOf,typeInfo,hin,g0,Addr.add_mid]
   |_=>simp[hu]at hf
def qI{b o:Nat}{p:α×β}(h:At w b o p):At w b o p.1:=by
 obtain⟨_,_,⟨F1,_,c1,_,rfl,rfl,h1,_⟩,hr⟩:=h;exact⟨F1,c1,h1,(wU hr).1⟩
def kE{b o:Nat}{p:α×β}(h:At w b o p):At w b (o+Rep.size α) p.2:=by
 obtain⟨_,_,⟨_,F2,_,c2,rfl,rfl,h1,h2⟩,hr⟩:=h;have:=(wU hr).2;rw[Rep.len h1]at this;exact⟨F2,c2,h2,this⟩
def Nv{a:Option Addr}{cap:Nat}{l:List α}(h:Is w (.slice a l.length cap) l)(k:Nat)(hk:k<=l.length)(s:Nat)(hs:s=Rep.size α) :
   Is w (.slice (if cap=k then a else a.map (·.add (k*s))) (l.length-k) (cap-k)) (l.drop k):=by
 subst hs;obtain⟨_,_,⟨_,_,_,_,rfl,_,_,hc,h4⟩,hv⟩:=h;simp only[fF,Rep.agg,cond_false,EM,Value.slice.injEq]at hv;obtain⟨rfl,_,rfl⟩:=hv;have e:l=l.take k++l.drop k:=by simp
 have C:(l.drop k).length=l.length-k:=by simp
 rw[e]at hc;obtain⟨_,F2,x1,x2,rfl,rfl,c1,c2⟩:=aO.split hc;have g1:x1.length=k*Rep.size α:=by rw[aO.len c1,fY];congr 1;omega
 by_cases hd:l.drop k=[]
 ·refine⟨[],_,⟨if cap=k then a else a.map (·.add (k*Rep.size α)),cap-k,F2,x2,rfl,by rw[C];omega,oo,c2,.inl ⟨hd,rfl⟩⟩,?_⟩;rw[<-C];rfl
 have g2:k<l.length:=by
   rcases kR k l.length with h'|h'
   ·exact h'
   exact absurd (List.drop_eq_nil_iff.2 h') hd
 rcases h4 with⟨rfl,_⟩|⟨b,o,rfl,rfl,hr,hb⟩
 ·simp at g2
 have g0:=(wU hr).2;rw[g1]at g0;refine⟨_,_,⟨_,cap-k,F2,x2,rfl,by rw[C];omega,oo,c2,.inr ⟨b,o+k*Rep.size α,rfl,rfl,g0,hb⟩⟩,?_⟩;rw[aH oo,<-C];simp only[OT,Addr.add_mid];rfl
def Ka{t e:TypeId}{by_:Nat}{v:vL}{l:List α}{i:Int}(ht:P.underlying t=some (.slice e))(he:cT P e=some (Rep.size α,by_,Rep.agg α))(h:Is w0 v l)(h0:0<=i)(h1:i.toNat<=l.length)
   (k:∀v',Is w0 v' (l.drop i.toNat)->K v'):RD P (Instr.sliceAt t v (some (iV i)) none none) w K:=by
 obtain⟨a,cap,_,_,rfl,_,_,_⟩:=xD h;refine dY (v:=.slice (if cap=i.toNat then a else a.map (·.add (i.toNat*Rep.size α))) (l.length-i.toNat) (cap-i.toNat)) (λw' _=>?_) (k _ (Nv h i.toNat h1 _ rfl))
 have hb:(Instr.sliceBounds true l.length cap (some (iV i)) none none).run P w'=.ok (i.toNat,l.length,cap) w':=by
   have:i<=(l.length:Int):=oo;simp[Instr.sliceBounds,Instr.sliceBound,asIntOf,h0,this]
 simp[Instr.sliceAt,Instr.slice,run_underlying ht,hb,qX he]
end data
end
end Go.Sh
namespace Go.Sh
open Go.RowKit (Below)
open Rep (rep)
variable {F G:List Nat}{w w':wD}
structure cH(F:List Nat)(w w':wD):Prop where
 os:w'.os=w.os
 tape:w'.tape=w.tape
 output:w'.output=w.output
 size:w.heap.size<=w'.heap.size
 block:∀b,b<w.heap.size->b∉F->w'.heap[b]?=w.heap[b]?
def cH.refl(F:List Nat)(w:wD):cH F w w:=⟨rfl,rfl,rfl,lr _,λ_ _ _=>rfl⟩
def cH.trans{a b c:wD}(h:cH F a b)(k:cH F b c):cH F a c:=
 ⟨k.os.trans h.os,k.tape.trans h.tape,k.output.trans h.output,eH h.size k.size,λi hi hF=>(k.block i (kP hi h.size) hF).trans (h.block i hi hF)⟩
def cH.mono{a b:wD}(h:cH F a b)(hs:∀ x∈F,x∈G):cH G a b:=
 ⟨h.os,h.tape,h.output,h.size,λi hi hF=>h.block i hi λe=>hF (hs i e)⟩
def aB.chg{a b:wD}(F:List Nat)(h:aB a b):cH F a b:=⟨h.os,h.tape,h.output,h.size,λi hi _=>h.block i hi⟩
def cH.ext{a b:wD}(h:cH [] a b):aB a b:=⟨h.os,h.tape,h.output,h.size,λi hi=>h.block i hi ss⟩
def aB.chg_trans{a b c:wD}(h:aB a b)(k:cH F b c)(hF:∀ x∈F,a.heap.size<=x):aB a c:=
 ⟨k.os.trans h.os,k.tape.trans h.tape,k.output.trans h.output,eH h.size k.size,
   λi hi=>(k.block i (kP hi h.size) λe=>by have:=hF i e;omega).trans (h.block i hi)⟩
def cO(w:wD):aB w (World.drew1 w):=⟨rfl,rfl,rfl,lr _,λ_ _=>rfl⟩
def oK(w:wD)(o:Obj):aB w (w.alloc o):=⟨rfl,rfl,rfl,ss,λk hk=>Below.heap_alloc w o k hk⟩
def zqY{row:Option Nat}(h:w.grownBy w' row):cH row.toList w w':=
 ⟨h.os,h.tape,h.output,h.size,λb hb hF=>h.block b hb λe=>hF (by simp[<-e])⟩
section
variable {P:pG}{w w0:wD}{α β:Type}[Rep α][Rep β]
def Is.chg{F:List Nat}{w':wD}{v:vL}{x:α}{G:List Nat}(h:nC G w v x)(hc:cH F w w')(hd:∀ b∈G,b∉F):nC G w' v x:=
 h.keep λb hb=>hc.block b (h.lt b hb) (hd b hb)
def nN(P:pG)(e:TypeId):Bool:=match P.info? e with|some i=>i.zero.isSome|none=>false
def IM(w:wD)(g:Nat)(cs:Array vL):cH [g] w (w.setRow g cs):=
 ⟨rfl,rfl,rfl,ss,λb _ hF=>setRow_other w g b _ (by simpa using hF)⟩
theorem NN{cs:List vL}{F:List Nat}{x:α}(h:rep F w cs x):(fF α cs).cells.toList=cs:=by
 unfold fF;cases ha:Rep.agg α with
 |true=>simp[Value.cells]
 | false=>
   have hl:=Rep.len h;rw[Rep.sz ha]at hl;obtain⟨c,rfl⟩:=IR.1 hl;have h1:=Rep.one h c ss;cases c<;>first|rfl|(simp[Value.oneCell']at h1)
def UQ{t by_ g o:Nat}{cur:Array vL}{e:TypeId}{F:List Nat}{cs:List vL}{x:α}(ht:cT P t=some (Rep.size α,by_,Rep.agg α))(hr:rep F w cs x)
   (hg:w.heap[g]?=some (.cells cur e (0,0))) (g0:o+Rep.size α<=cur.size) :
   (Instr.storeAt t (pT g o) (fF α cs)).run P w=.ok () (w.setRow g (cur.toList.take o++cs++cur.toList.drop (o+cs.length)).toArray):=by
 obtain⟨_,_,_,_,_,_⟩:=xO ht;have hc:=NN hr;have hl:=Rep.len hr;have g1:(fF α cs).cells.size=Rep.size α:=by rw[<-sM,hc,hl]
 have:=run_storeCells_at (P:=P) g o e cs 0 cur w hg (by rw[hl];simpa using g0) (Rep.one hr);simp only[JY]at this;simp[Instr.storeAt,Instr.sureAddr,storeVar,g1,qX ht,hc,this]
def Ou{t e:TypeId}{s by_ n cap g k:Nat}{ag:Bool}{K:vL->Prop}(ht:P.underlying t=some (.slice e))(he:cT P e=some (s,by_,ag))(hk:k<n)(kk:K (pT g (k*s))) :
   RD P (Instr.indexAt t (.slice (some ⟨g,0,none⟩) n cap) (iV k)) w K:=
 dY (λw' _=>by rw[KS ht he oo oo];simp) kk
def iR{t:TypeId}{v:vL}{x:α}{K:vL->wD->Prop}(h:Is w0 v x)(hx:aB w0 w)(k:∀ w',aB w w'->At w' w.heap.size 0 x->K (pT w.heap.size 0) w') :
   OP P (Instr.box t v) w K:=by
 obtain⟨F,cs,hr,rfl⟩:=h;have hc:=NN hr;refine⟨_,w.alloc (.cells (fF α cs).cells t),by simp[Instr.box,newVar,newRow],k _ (oK w _) ⟨F,cs,rH hr (hx.t (oK w _)),?_⟩⟩;intro _ _ hu;simp only[World.cell?,heap_alloc_new w _];rw[<-hc]at hu;simpa using hu
def cA(g e:Nat)(w:wD)(cs:List vL):Prop:=w.heap[g]?=some (.cells cs.toArray e (0,0))
def cA.lt{g e:Nat}{cs:List vL}(h:cA g e w cs):g<w.heap.size:=(Array.getElem?_eq_some_iff.1 h).1
def cA.ext{g e:Nat}{w':wD}{cs:List vL}(h:cA g e w cs)(hx:aB w w'):cA g e w' cs:=by
 unfold cA;rw[hx.heap h.lt];exact h
def cA.keep{g e:Nat}{w':wD}{cs:List vL}(h:cA g e w cs)(hk:w'.heap[g]?=w.heap[g]?):cA g e w' cs:=by
 unfold cA;rw[hk];exact h
def cA.chg{g e:Nat}{F:List Nat}{w':wD}{cs:List vL}(h:cA g e w cs)(hc:cH F w w')(hg:g∉F):cA g e w' cs:=h.keep (hc.block g h.lt hg)
def cA.range{g e:Nat}{cs:List vL}(h:cA g e w cs):w.rangeAt g 0 cs:=by
 intro _ _ hv;have h':w.heap[g]?=some (.cells cs.toArray e (0,0)):=h;simpa[World.cell?,h']using hv
def cA.at{g e:Nat}{F:List Nat}{cs:List vL}{x:α}(h:cA g e w cs)(hr:rep F w cs x):At w g 0 x:=⟨F,cs,hr,h.range⟩
def kO(P:pG)(e:TypeId):Option (List vL):=match P.info? e with|some i=>i.zero.map (·.cells.toList)|none=>none
theorem rK{e:TypeId}{zs:List vL}{K:vL->wD->Prop}(hz:kO P e=some zs)(k:∀ w',aB w w'->cA w.heap.size e w' zs->K (pT w.heap.size 0) w') :
   OP P (Instr.alloc e true (.tuple #[])) w K:=by
 unfold kO at hz;cases hi:P.info? e with
 |none=>simp[hi]at hz
 | some i=>
   simp only[hi]at hz;obtain⟨z,g0,rfl⟩:=CB.1 hz;exact⟨_,w.alloc (.cells z.cells e),by simp[Instr.alloc,zeroValue,typeInfo,hi,g0,newVar,newRow],k _ (oK w _) (by unfold cA;rw[heap_alloc_new w _])⟩
def AM(P:pG)(t:TypeId)(w:wD)(g:Nat)(v:vL):Prop:=∃e cs by_,cA g e w cs/\v=.agg cs.toArray/\cT P t=some (cs.length,by_,true)
def AM.lt{t g:Nat}{v:vL}(h:AM P t w g v):g<w.heap.size:=by obtain⟨_,_,_,hB,_⟩:=h;exact hB.lt
def AM.ext{t g:Nat}{v:vL}{w':wD}(h:AM P t w g v)(hx:aB w w'):AM P t w' g v:=by
 obtain⟨e,cs,b,hB,r⟩:=h;exact⟨e,cs,b,hB.ext hx,r⟩
def AM.keep{t g:Nat}{v:vL}{w':wD}(h:AM P t w g v)(hk:w'.heap[g]?=w.heap[g]?):AM P t w' g v:=by
 obtain⟨e,cs,b,hB,r⟩:=h;exact⟨e,cs,b,hB.keep hk,r⟩
def pX{t g:Nat}{v:vL}{K:vL->Prop}(h:AM P t w0 g v)(hx:aB w0 w)(k:K v):RD P (Instr.loadAt t (pT g 0)) w K:=by
 obtain⟨_,cs,_,hB,rfl,ht⟩:=h;obtain⟨_,d,hi,hd,hs,_,hg⟩:=xO ht;exact dY (λw' g0=>run_loadAt_mid w' g 0 t cs d ((hB.ext hx).ext g0).range hd hg (by simp[hi,hs])) k
def lA{t by_:Nat}{v:vL}{x:α}{K:vL->wD->Prop}(ht:cT P t=some (Rep.size α,by_,true))(ha:Rep.agg α=true)(h:Is w0 v x)(hx:aB w0 w)
   (k:∀w',aB w w'->At w' w.heap.size 0 x->AM P t w' w.heap.size v->K (pT w.heap.size 0) w'):OP P (Instr.box t v) w K:=by
 obtain⟨_,cs,hr,rfl⟩:=h;have hc:=NN hr
 have hB:cA w.heap.size t (w.alloc (.cells (fF α cs).cells t)) cs:=by
   unfold cA;rw[heap_alloc_new w _];congr 2;apply GA;simp[hc]
 refine⟨_,w.alloc (.cells (fF α cs).cells t),by simp[Instr.box,newVar,newRow],k _ (oK w _) (hB.at (rH hr (hx.t (oK w _)))) ⟨t,cs,by_,hB,by simp[fF,ha],by rw[Rep.len hr];exact ht⟩⟩
theorem mB{e by_:Nat}{zs:List vL}{v:vL}{x:α}{K:vL->wD->Prop}(hz:kO P e=some zs)(hl:zs.length=Rep.size α)(ht:cT P e=some (Rep.size α,by_,true))(ha:Rep.agg α=true)(h:Is w0 v x)(hx:aB w0 w)
   (k:∀w',aB w w'->At w' w.heap.size 0 x->AM P e w' w.heap.size v->K (pT w.heap.size 0) w') :
   OP P (Instr.alloc e true (.tuple #[])) w λp w1=>fA P (Instr.storeAt e p v) w1 (K p):=by
 obtain⟨_,cs,hr,rfl⟩:=h;have g1:=Rep.len hr;unfold kO at hz;cases hi:P.info? e with
 |none=>simp[hi]at hz
 | some i=>
   simp only[hi]at hz;obtain⟨z,g5,rfl⟩:=CB.1 hz;refine⟨pT w.heap.size 0,w.alloc (.cells z.cells e),by simp[Instr.alloc,zeroValue,typeInfo,hi,g5,newVar,newRow],?_⟩;have hB:(w.alloc (.cells z.cells e)).heap[w.heap.size]?=some (.cells z.cells e (0,0)):=heap_alloc_new w _;have g2:z.cells.size=Rep.size α:=by simpa using hl
   have g3:=UQ (P:=P) (t:=e) (by_:=by_) (o:=0) (by rw[ha];exact ht) (rH hr (hx.t (oK w (.cells z.cells e)))) hB (by simp[g2]);have g0:=setRow_heap (w.alloc (.cells z.cells e)) w.heap.size z.cells (z.cells.toList.take 0++cs++z.cells.toList.drop (0+cs.length)).toArray e _ hB
   have gb:z.cells.toList.take 0++cs++z.cells.toList.drop (0+cs.length)=cs:=by
     rw[LA,sL,vO,Hq (by simp[g2,g1]),oJ]
   rw[gb]at g3 g0;have g4:aB w ((w.alloc (.cells z.cells e)).setRow w.heap.size cs.toArray):=(oK w _).chg_trans (IM _ _ _) ss;exact⟨_,g3,k _ g4 (cA.at (e:=e) g0 (rH hr xx)) ⟨e,cs,by_,g0,by simp[fF,ha],by rw[g1];exact ht⟩⟩
theorem ir{e by_:Nat}{zs:List vL}{v:vL}{x:α}{K:vL->wD->Prop}(hz:kO P e=some zs)(hl:zs.length=Rep.size α)(ht:cT P e=some (Rep.size α,by_,true))(ha:Rep.agg α=true)(h:Is w0 v x)(hx:aB w0 w)
   (k:∀w',aB w w'->At w' w.heap.size 0 x->AM P e w' w.heap.size v->K (pT w.heap.size 0) w') :
   OP P (Instr.alloc e true (.tuple #[])) w λp w1=>aB w w1/\fA P (Instr.storeAt e p v) w1 (K p):=by
 obtain⟨_,cs,hr,rfl⟩:=h;have g1:=Rep.len hr;unfold kO at hz;cases hi:P.info? e with
 |none=>simp[hi]at hz
 | some i=>
   simp only[hi]at hz;obtain⟨z,g5,rfl⟩:=CB.1 hz;refine⟨pT w.heap.size 0,w.alloc (.cells z.cells e),by simp[Instr.alloc,zeroValue,typeInfo,hi,g5,newVar,newRow],oK w _,?_⟩;have hB:(w.alloc (.cells z.cells e)).heap[w.heap.size]?=some (.cells z.cells e (0,0)):=heap_alloc_new w _;have g2:z.cells.size=Rep.size α:=by simpa using hl
   have g3:=UQ (P:=P) (t:=e) (by_:=by_) (o:=0) (by rw[ha];exact ht) (rH hr (hx.t (oK w (.cells z.cells e)))) hB (by simp[g2]);have g0:=setRow_heap (w.alloc (.cells z.cells e)) w.heap.size z.cells (z.cells.toList.take 0++cs++z.cells.toList.drop (0+cs.length)).toArray e _ hB
   have gb:z.cells.toList.take 0++cs++z.cells.toList.drop (0+cs.length)=cs:=by
     rw[LA,sL,vO,Hq (by simp[g2,g1]),oJ]
   rw[gb]at g3 g0;have g4:aB w ((w.alloc (.cells z.cells e)).setRow w.heap.size cs.toArray):=(oK w _).chg_trans (IM _ _ _) ss;exact⟨_,g3,k _ g4 (cA.at (e:=e) g0 (rH hr xx)) ⟨e,cs,by_,g0,by simp[fF,ha],by rw[g1];exact ht⟩⟩
def Jf{t by_ g o e:Nat}{cs us:List vL}{F:List Nat}{x:α}{v:vL}{K:wD->Prop}(ht:cT P t=some (Rep.size α,by_,Rep.agg α))(hB:cA g e w cs)(hr:rep F w us x)(hv:v=fF α us)(ho:o+Rep.size α<=cs.length)
   (k:∀w',cH [g] w w'->cA g e w' (cs.take o++us++cs.drop (o+us.length))->K w'):fA P (Instr.storeAt t (pT g o) v) w K:=by
 subst hv;have g0:w.heap[g]?=some (.cells cs.toArray e (0,0)):=hB;have:=UQ (P:=P) ht hr g0 (by simpa using ho);exact⟨_,this,k _ (IM w g _) (setRow_heap w g _ _ e _ g0)⟩
class dN (α:Type) [Rep α]:Prop where
 flat:∀{F w cs}{x:α},rep F w cs x->F=[]
instance:dN Int:=⟨λh=>h.1⟩
instance:dN Bool:=⟨λh=>h.1⟩
instance:dN ByteArray:=⟨λh=>h.1⟩
instance[dN α][dN β]:dN (α×β):=⟨by
 rintro _ _ _ _ ⟨F1,F2,c1,c2,rfl,rfl,h1,h2⟩;rw[dN.flat h1,dN.flat h2];rfl⟩
theorem aO.flat[dN α]{xs:List vL}:∀{l:List α}{F:List Nat}{xs:List vL},aO F w xs l->F=[]
 |[],_,_,⟨h,_⟩=>h
 |_ :: _,_,_,⟨F1,F2,c1,c2,hF,_,h1,h2⟩=>by rw[hF,dN.flat h1,aO.flat (xs:=xs) h2];rfl
def aO.set{F:List Nat}{xs:List vL}{l:List α}(h:aO F w xs l)(k:Nat)(hk:k<l.length){G:List Nat}{cs:List vL}{x:α}(hr:rep G w cs x)[dN α] :
   aO [] w (xs.take (k*Rep.size α)++cs++xs.drop (k*Rep.size α+Rep.size α)) (l.set k x):=by
 have hF:=aO.flat (xs:=xs) h;have hG:=dN.flat hr;subst hF hG;have e:l=l.take k++(l[k] :: l.drop (k+1)):=by simp
 rw[e]at h;obtain⟨_,_,x1,_,g0,rfl,h1,h2⟩:=aO.split h;obtain⟨rfl,rfl⟩:=Jl.1 g0.symm;obtain⟨_,_,c1,c2,g1,rfl,k1,k2⟩:=h2;obtain⟨rfl,rfl⟩:=Jl.1 g1.symm;have hl:x1.length=k*Rep.size α:=by rw[aO.len h1,fY];congr 1;omega
 have hc:=Rep.len k1;have e1:(x1++(c1++c2)).take (k*Rep.size α)=x1:=by rw[<-hl];exact List.take_left
 have e2:(x1++(c1++c2)).drop (k*Rep.size α+Rep.size α)=c2:=by
   rw[<-hl,<-hc,<-fR,<-bX];exact List.drop_left
 rw[e1,e2];have:l.set k x=l.take k++(x :: l.drop (k+1)):=by rw[ZN];simp[hk]
 rw[this,fR];exact aO.append (F:=[]) (G:=[]) h1 ⟨[],[],cs,c2,rfl,rfl,hr,k2⟩
def sf{t e:TypeId}{by_:Nat}[dN α]{F:List Nat}{v u:vL}{l:List α}{x:α}{k:Nat}{K:wD->Prop}(ht:P.underlying t=some (.slice e))(he:cT P e=some (Rep.size α,by_,Rep.agg α))
   (hm:aZ F w v l) (hk:k<l.length) (hx:nC [] w u x) (kk:∀w',cH F w w'->aZ F w' v (l.set k x)->K w') :
   RD P (Instr.indexAt t v (iV k)) w λp=>fA P (Instr.storeAt e p u) w K:=by
 obtain⟨⟨_,⟨_,cap,_,xs,rfl,h1,h2,hc,h4⟩,rfl⟩,hn,hw⟩:=hm;obtain⟨us,hr,rfl⟩:=hx;rcases h4 with⟨rfl,_⟩|⟨b,o,rfl,rfl,g2,hb⟩
 ·simp at hk
 obtain⟨cur,e',D⟩:=hw b ss;have g3:=aO.flat (xs:=xs) hc;subst g3;have hlx:=aO.len hc;have g4:=Rep.len hr;have g5:(k+1)*Rep.size α<=l.length*Rep.size α:=IK _ oo;rw[xM,GL]at g5;have g9:=Rep.pos (α:=α)
 have C:∀j,j<xs.length->cur[o+j]?=xs[j]?:=by
   intro j hj;have:=g2 j xs[j] (by simp[hj]);simpa[World.cell?,D,hj]using this
 have gb:o+xs.length<=cur.size:=by
   have hj:xs.length-1<xs.length:=oo;have:=C (xs.length-1) hj;rw[List.getElem?_eq_getElem hj]at this;have:=(Array.getElem?_eq_some_iff.1 this).1;omega
 refine dY (v:=pT b (o+k*Rep.size α)) (λw' _=>?_) ⟨_,UQ (e:=e') (cur:=cur) he hr D oo,kk _ ((IM w b _).mono ss) ?_⟩
 ·show(Instr.indexAt t (.slice (some ⟨b,o,none⟩) l.length cap) (iV k)).run P w'=_;rw[KS ht he oo oo];simp
 refine⟨⟨_,⟨some ⟨b,o,none⟩,cap,[],xs.take (k*Rep.size α)++us++xs.drop (k*Rep.size α+Rep.size α),ss,by simpa using h1,h2,?_,.inr ⟨b,o,rfl,rfl,?_,?_⟩⟩,rfl⟩,hn,?_⟩
 ·have:=aO.set hc k hk hr;exact aO.keep this ss
 ·intro j u hu;have g0:j<(xs.take (k*Rep.size α)++us++xs.drop (k*Rep.size α+Rep.size α)).length:=(List.getElem?_eq_some_iff.1 hu).1
  have g1:(xs.take (k*Rep.size α)++us++xs.drop (k*Rep.size α+Rep.size α)).length=xs.length:=by
    simp only[bX,fY,wL,g4];omega
  rw[g1]at g0;simp only[World.cell?,setRow_heap w b cur _ e' _ D];simp only[Eo,DH,if_false,List.getElem?_toArray];rw[<-hu];by_cases hj1:j<k*Rep.size α
  ·rw[fR,List.getElem?_append_left (by simp only[fY,sM];omega),List.getElem?_take,aP oo,Array.getElem?_toList,C j g0,
     fR,List.getElem?_append_left (by simp only[fY];omega),List.getElem?_take,aP hj1]
  by_cases hj2:j<k*Rep.size α+Rep.size α
  ·rw[fR,List.getElem?_append_right (by simp only[fY,sM];omega),List.getElem?_append_left (by simp only[fY,sM];omega),
     fR,List.getElem?_append_right (by simp only[fY];omega),List.getElem?_append_left (by simp only[fY];omega)]
   congr 1;simp only[fY,sM];omega
  rw[List.getElem?_append_right (by simp only[bX,fY,sM];omega),List.getElem?_append_right (l₁:=xs.take _++us) (by simp only[bX,fY];omega),
    List.getElem?_drop,List.getElem?_drop,Array.getElem?_toList]
  have e1:o+k*Rep.size α+us.length+(o+j-(List.take (o+k*Rep.size α) cur.toList++us).length)=o+j:=by
    simp only[bX,fY,sM];omega
  have e2:k*Rep.size α+Rep.size α+(j-(List.take (k*Rep.size α) xs++us).length)=j:=by
    simp only[bX,fY];omega
  rw[e1,e2,C j g0]
 ·simpa[World.setRow]using hb
 intro c hc;simp only[bF,dL,dI]at hc;subst hc;exact⟨_,e',setRow_heap w c cur _ e' _ D⟩
def fL(F:List Nat)(e:TypeId)(w:wD)(v:vL)(l:List α):Prop:=
 ∃xs Fi,w.ownsRow 0 e (Rep.size α) v l.length xs/\aO Fi w xs l/\F=v.ownBlock.toList++Fi/\Wr Fi w
def HY(lo:Nat)(e:TypeId)(w:wD)(v:vL)(l:List α):Prop:=∃F,fL F e w v l/\F.Nodup/\∀b∈F,lo<=b
def fL.lt{F:List Nat}{e:TypeId}{v:vL}{l:List α}(h:fL F e w v l):∀b∈F,b<w.heap.size:=by
 obtain⟨_,_,ho,hc,rfl,_⟩:=h;intro b hb;rcases dF.1 hb with hb|hb
 ·exact(ho.lt b (by simpa[Pc]using hb)).2
 exact aO.lt hc b hb
def fL.keep{F:List Nat}{e:TypeId}{v:vL}{w':wD}{l:List α}(h:fL F e w v l)(hk:∀ b∈F,w'.heap[b]?=w.heap[b]?):fL F e w' v l:=by
 obtain⟨xs,Fi,ho,hc,rfl,hw⟩:=h;refine⟨xs,Fi,⟨ho.1,?_⟩,aO.keep hc λb hb=>hk b (by simp[hb]),rfl,hw.keep λb hb=>hk b (by simp[hb])⟩;rcases ho.2 with hn|⟨g,cap,cur,rfl,hb,hg,rest⟩
 ·exact .inl hn
 exact .inr ⟨g,cap,cur,rfl,hb,by rw[hk g (by simp[Value.ownBlock])];exact hg,rest⟩
def fL.ext{F:List Nat}{e:TypeId}{v:vL}{w':wD}{l:List α}(h:fL F e w v l)(hx:aB w w'):fL F e w' v l:=h.keep λb hb=>hx.heap (h.lt b hb)
def HY.ext{lo:Nat}{e:TypeId}{v:vL}{w':wD}{l:List α}(h:HY lo e w v l)(hx:aB w w'):HY lo e w' v l:=by
 obtain⟨F,h,hn,hb⟩:=h;exact⟨F,h.ext hx,hn,hb⟩
def fL.own{F:List Nat}{e:TypeId}{v:vL}{l:List α}(h:fL F e w v l):nC F w v l:=by
 have g0:=h.lt;obtain⟨xs,Fi,ho,hc,rfl,_⟩:=h;rcases ho.2 with⟨rfl,hn⟩|⟨g,cap,_,rfl,_,_,h1,h2,_,_⟩
 ·have:l=[]:=qC hn;subst this;obtain⟨rfl,rfl⟩:=hc;exact⟨_,⟨none,0,[],[],rfl,lr _,z0 _,⟨rfl,rfl⟩,.inl ⟨rfl,rfl⟩⟩,rfl⟩
 refine⟨_,⟨_,cap,Fi,xs,rfl,h1,h2,hc,.inr ⟨g,0,rfl,rfl,?_,g0 g (by simp[Value.ownBlock])⟩⟩,rfl⟩;intro j v hv;have:=ho.cells (g:=g) rfl j v hv;rwa[Addr.add_mid]at this
def fL.wr{F:List Nat}{e:TypeId}{v:vL}{l:List α}(h:fL F e w v l):Wr F w:=by
 obtain⟨_,_,ho,_,rfl,hw⟩:=h;refine Wr.append (λ_ hb=>?_) hw;rcases ho.2 with⟨rfl,_⟩|⟨_,_,cur,rfl,_,hg,_⟩
 ·simp[Value.ownBlock]at hb
 simp[Value.ownBlock]at hb;subst hb;exact⟨cur,e,hg⟩
def HY.own{lo:Nat}{e:TypeId}{v:vL}{l:List α}(h:HY lo e w v l):eG lo w v l:=by
 obtain⟨F,h,hn,hb⟩:=h;exact⟨F,⟨h.own,hn,h.wr⟩,hb⟩
def HY.is{lo:Nat}{e:TypeId}{v:vL}{l:List α}(h:HY lo e w v l):Is w v l:=h.own.is
def Ex{t e:TypeId}{by_:Nat}{K:vL->wD->Prop}(ht:P.underlying t=some (.slice e))(he:cT P e=some (Rep.size α,by_,Rep.agg α))
   (k:∀a w',aB w w'->HY (α:=α) w.heap.size e w' (.slice (some a) 0 0) []->K (.slice (some a) 0 0) w'):OP P (Instr.buildSlice t 0 #[]) w K:=by
 refine⟨.slice (some ⟨w.heap.size,0,none⟩) 0 0,w.alloc (.cells #[] e),?_,k _ _ (oK w _) ⟨[w.heap.size],⟨[],[],?_,⟨rfl,rfl⟩,rfl,Wr.nil _⟩,ss,ss⟩⟩
 ·have h0:Array.range 0=#[]:=by apply GA;simp
  simp[Instr.buildSlice,run_underlying ht,qX he,Instr.fill,newRow,h0]
 exact World.ownsRow_made w #[] 0 (z0 _) (z0 _) ss
def dl{t ty e:TypeId}{s by_:Nat}{g:Bool}(ht:P.underlying t=some (.slice e))(he:cT P e=some (s,by_,g)){v:vL}{n:Nat}{xs:List vL}(ho:w.ownsRow 0 e s v n xs)(a:Option Addr)(c:Nat) :
   (Builtin.append_ #[t,t] ty #[v,.slice a 0 c]).run P w=.ok v w:=by
 have hf:(Builtin.firstCells s 0 (.slice a 0 c)).run P w=.ok #[] w:=by
   cases a with
   |none=>rfl
   |some a=>simp[Builtin.firstCells,loadCells,loadCellsFrom]
 rcases ho.2 with⟨rfl,rfl⟩|⟨g,_,_,rfl,_,_,g0,_⟩
 ·simp[Builtin.append_,run_underlying ht,qX he,Builtin.lenOf,hf]
 simp[Builtin.append_,run_underlying ht,qX he,Builtin.lenOf,hf,g0,storeCells]
def UK{t ty e:TypeId}{by_:Nat}{K:vL->wD->Prop}{v gh:vL}{l m:List α}{F:List Nat}(ht:P.underlying t=some (.slice e))(he:cT P e=some (Rep.size α,by_,Rep.agg α))(hz:(P.info? e).map (λi=>(i.zero.map (·.cells.size)))=some (some (Rep.size α)))
   (hr:fL F e w v l) (hn:F.Nodup) {a:Option Addr} {c:Nat} {xs:List vL} {G:List Nat} (hs:gh=.slice a m.length c) (hc:aO G w xs m) (ha:m=[]\/∃b o,a=some ⟨b,o,none⟩/\w.rangeAt b o xs)
   (hG:Wr G w) (hd:(G++F).Nodup) (hm:l.length+m.length<=maxLen) (hb:(l.length+m.length)*by_<=140737488355328)
   (k:∀v' w' F',cH v.ownBlock.toList w w'->(∀a,v=.slice a l.length l.length->aB w w')->fL F' e w' v' (l++m)->F'.Nodup->(∀b∈F',b∈F\/b∈G\/w.heap.size<=b)->K v' w'):OP P (Builtin.append_ #[t,t] ty [v,gh].toArray) w K:=by
 subst hs;obtain⟨Z,Fi,ho,g4,rfl,gd⟩:=hr;by_cases hm0:m=[]
 ·subst hm0;obtain⟨rfl,rfl⟩:=hc;refine⟨v,w,dl ht he ho a c,k v w _ (cH.refl _ _) (λ_ _=>aC w) (by simpa using⟨Z,Fi,ho,g4,rfl,gd⟩) hn (λb hb=>.inl hb)⟩
 rcases ha with h|⟨b,o,rfl,V⟩
 ·exact absurd h hm0
 obtain⟨i,_,hi,_,hs,g0,_⟩:=xO he;simp only[hi,OT,iU]at hz;obtain⟨z,hz,gi⟩:=CB.1 hz
 obtain⟨v',w',D,g1,g2,_⟩:=run_append_own (P:=P) w 0 t ty e i z (Rep.size α) by_ ht hi hz hs g0 gi Rep.pos v l.length Z ho ⟨b,o,none⟩ m.length c xs (aO.len hc)
   (λj u hu=>by rw[Addr.add_mid];exact V j u hu) (aO.one hc) hm hb (z0 _)
 have O:=zqY g2
 have kF:∀b∈Fi,w'.heap[b]?=w.heap[b]?:=λb hb=>O.block b (aO.lt g4 b hb) (λe=>by
   rw[oE]at hn;exact hn.2.2 b e b hb rfl)
 have kG:∀b∈G,w'.heap[b]?=w.heap[b]?:=λb hb=>O.block b (aO.lt hc b hb) (λe=>by
   rw[oE]at hd;exact hd.2.2 b hb b (by simp only[dF];exact .inl e) rfl)
 have gf:∀q,v'.ownBlock=some q->v.ownBlock=some q\/w.heap.size<=q:=by
   intro q hq;rcases kR q w.heap.size with _|gj
   ·left;by_cases hv0:v.ownBlock=some q
    ·exact hv0
    exfalso;rcases ho.2 with⟨rfl,gl⟩|⟨g,cap,cur,rfl,_,gg,h1,h2,h3,h4⟩
    · -- grown out of nil: the block is new
     have g5:0<m.length:=NL.2 hm0;have M:=run_append_nil (P:=P) w t ty e i z ht hi hz ⟨b,o,none⟩ m.length c xs (by rw[hs];exact aO.len hc) (λj u hu=>by rw[Addr.add_mid];exact V j u hu) g5 (by rw[eB]at hm;omega) (by rw[g0];have:=hb;rw[xM]at this;omega);have C:(Builtin.append_ #[t,t] ty #[.slice none 0 0,.slice (some ⟨b,o,none⟩) m.length c]).run P w=.ok v' w':=D;rw[M]at C;simp only[Result.ok.injEq]at C;rw[<-C.1]at hq;simp[Value.ownBlock]at hq;omega
    by_cases hroom:l.length+m.length<=cap
    ·have g9:l.length*i.size+xs.length<=cur.size:=by rw[aO.len hc,h3,hs,<-xM];exact IK _ hroom
     have M:=run_append_room (P:=P) w t ty e i ht hi g l.length cap cur gg ⟨b,o,none⟩ m.length c xs (by rw[hs];exact aO.len hc) (λj u hu=>by rw[Addr.add_mid];exact V j u hu) (aO.one hc) hroom g9;have C:(Builtin.append_ #[t,t] ty #[.slice (some ⟨g,0,none⟩) l.length cap,.slice (some ⟨b,o,none⟩) m.length c]).run P w=.ok v' w':=D;rw[M]at C;simp only[Result.ok.injEq]at C;rw[<-C.1]at hq;simp[Value.ownBlock]at hq hv0;exact hv0 hq
    have M:=run_append_grow (P:=P) w t ty e i z ht hi hz ⟨g,0,none⟩ l.length cap Z (by rw[hs];exact ho.1) (ho.cells (g:=g) rfl) ⟨b,o,none⟩ m.length c xs (by rw[hs];exact aO.len hc) (λj u hu=>by rw[Addr.add_mid];exact V j u hu) oo (by rw[eB]at hm;omega) (growslice_fits oo (by rw[g0];exact hb));have C:(Builtin.append_ #[t,t] ty #[.slice (some ⟨g,0,none⟩) l.length cap,.slice (some ⟨b,o,none⟩) m.length c]).run P w=.ok v' w':=D;rw[M]at C;simp only[Result.ok.injEq]at C;rw[<-C.1]at hq;simp[Value.ownBlock]at hq;omega
   exact .inr gj
 have g3:∀a,v=.slice a l.length l.length->aB w w':=by
   intro a gn;have g5:0<m.length:=NL.2 hm0;rcases ho.2 with⟨rfl,gl⟩|⟨g,cap,cur,rfl,_,gg,h1,h2,h3,h4⟩
   ·have M:=run_append_nil (P:=P) w t ty e i z ht hi hz ⟨b,o,none⟩ m.length c xs (by rw[hs];exact aO.len hc) (λj u hu=>by rw[Addr.add_mid];exact V j u hu) g5 (by rw[eB]at hm;omega) (by rw[g0];have:=hb;rw[xM]at this;omega);have C:(Builtin.append_ #[t,t] ty #[.slice none 0 0,.slice (some ⟨b,o,none⟩) m.length c]).run P w=.ok v' w':=D;rw[M]at C;simp only[Result.ok.injEq]at C;rw[<-C.2];exact(cO w).trans (oK w.drew _)
   simp only[Value.slice.injEq,true_and]at gn;have M:=run_append_grow (P:=P) w t ty e i z ht hi hz ⟨g,0,none⟩ l.length cap Z (by rw[hs];exact ho.1) (ho.cells (g:=g) rfl) ⟨b,o,none⟩ m.length c xs (by rw[hs];exact aO.len hc) (λj u hu=>by rw[Addr.add_mid];exact V j u hu) oo (by rw[eB]at hm;omega) (growslice_fits oo (by rw[g0];exact hb));have C:(Builtin.append_ #[t,t] ty #[.slice (some ⟨g,0,none⟩) l.length cap,.slice (some ⟨b,o,none⟩) m.length c]).run P w=.ok v' w':=D;rw[M]at C;simp only[Result.ok.injEq]at C;rw[<-C.2];exact(cO w).trans (oK w.drew _)
 refine⟨v',w',D,k v' w' (v'.ownBlock.toList++(Fi++G)) O g3 ⟨Z++xs,Fi++G,by simpa using g1,aO.append (aO.keep g4 kF) (aO.keep hc kG),rfl,(gd.keep kF).append (hG.keep kG)⟩ ?_ ?_⟩
 ·have gb:∀b∈Fi,b<w.heap.size:=aO.lt g4;have gc:∀b∈G,b<w.heap.size:=aO.lt hc;rw[oE]at hd hn;rw[oE,oE];refine⟨by cases v'.ownBlock<;>simp,⟨hn.2.1,hd.1,λx hx y hy e=>hd.2.2 y hy x (by simp[hx]) e.symm⟩,?_⟩;intro x hx y hy e;subst e;rcases gf x (by simpa[Pc]using hx)with h|h
  ·rcases dF.1 hy with hy|hy
   ·exact hn.2.2 x (by simp[h]) x hy rfl
   exact hd.2.2 x hy x (by simp[h]) rfl
  rcases dF.1 hy with hy|hy
  ·have:=gb x hy;omega
  have:=gc x hy;omega
 intro x hx;rcases dF.1 hx with hx|hx
 ·rcases gf x (by simpa[Pc]using hx)with h|h
  ·exact .inl (by simp[h])
  exact .inr (.inr h)
 rcases dF.1 hx with hx|hx
 ·exact .inl (by simp[hx])
 exact .inr (.inl hx)
end
end Go.Sh
namespace Go.Sh
open Go.RowKit (Below)
open Rep (rep)
variable {G G':List Nat}{b n n' o o':Nat}{w w':wD}
def nL{α:Type}[Rep α](G:List Nat)(w:wD)(b o:Nat)(x:α):Prop:=
 ∃cs,rep G w cs x/\w.rangeAt b o cs/\G.Nodup/\Wr G w/\b∉G/\∃c e,w.heap[b]?=some (.cells c e (0,0))
structure mR(b o n:Nat)(G:List Nat)(w w':wD):Prop where
 chg:cH (b :: G) w w'
 cell:∀c e,w.heap[b]?=some (.cells c e (0,0))->∃c',w'.heap[b]?=some (.cells c' e (0,0))/\∀j,(j<o\/o+n<=j)->c'[j]?=c[j]?
def mR.mono(h:mR b o n G w w')(ho:o'<=o)(hn:o+n<=o'+n')(hG:∀ c∈G,c∈G'):mR b o' n' G' w w':=
 ⟨h.chg.mono λx hx=>by
   rcases bF.1 hx with rfl|hx
   ·simp
   ·exact Ar _ (hG x hx),λc e hc=>by
   obtain⟨c',h1,h2⟩:=h.cell c e hc;exact⟨c',h1,λj hj=>h2 j oo⟩⟩
section
variable {P:pG}{w w0:wD}{α β:Type}[Rep α][Rep β]
def mR.range{b o n o':Nat}{G:List Nat}{w':wD}{cs:List vL}(h:mR b o n G w w')(hw:∃ c e,w.heap[b]?=some (.cells c e (0,0)))(hr:w.rangeAt b o' cs)(hd:o'+cs.length<=o\/o+n<=o'):w'.rangeAt b o' cs:=by
 obtain⟨c,e,hc⟩:=hw;obtain⟨_,h1,h2⟩:=h.cell c e hc;intro j v hv;have hj:j<cs.length:=(List.getElem?_eq_some_iff.1 hv).1;have:=hr j v hv;simp only[World.cell?,hc,h1]at this ⊢;simp only[Eo,DH,if_false]at this ⊢;rw[h2 (o'+j) oo];exact this
def nL.at{G:List Nat}{b o:Nat}{x:α}(h:nL G w b o x):At w b o x:=by
 obtain⟨cs,hr,ha,_⟩:=h;exact⟨G,cs,hr,ha⟩
def nL.lt{G:List Nat}{b o:Nat}{x:α}(h:nL G w b o x):b<w.heap.size:=by
 obtain⟨_,_,_,_,_,_,_,_,hc⟩:=h;exact(Array.getElem?_eq_some_iff.1 hc).1
structure bT(H:List Nat->wD->α->Prop)(S:List Nat)(w:wD)(b o:Nat)(G:List Nat)(y:β)(upd:β->α):Prop where
 here:nL G w b o y
 sub:∀c∈b :: G,c∈S
 back:∀w' G' y',mR b o (Rep.size β) G w w'->nL G' w' b o y'->(∀c∈G',c∈G\/c∉S)->∃F',H F' w' (upd y')/\∀c∈F',c∈S\/c∈G'
abbrev MH(v:vL):List Nat->wD->α->Prop:=λF w x=>aZ F w v x
abbrev VH(g:Nat):List Nat->wD->α->Prop:=λF w x=>nL F w g 0 x
def bT.var{F:List Nat}{g:Nat}{x:α}(h:nL F w g 0 x):bT (VH g) (g :: F) w g 0 F x (λy=>y):=
 ⟨h,λ_ h=>h,λw' G' y' _ hO _=>⟨G',hO,λc hc=>.inr hc⟩⟩
def J0{F1 F2 G G':List Nat}{b:Nat}(h:(b :: (F1++(G++F2))).Nodup)(hG:G'.Nodup)(hs:∀ c∈G',c∈G\/c∉b :: (F1++(G++F2))):(b :: (F1++(G'++F2))).Nodup:=by
 rw[tZ]at h ⊢;obtain⟨hb,h⟩:=h;rw[oE]at h ⊢;obtain⟨h1,h2,h3⟩:=h;rw[oE]at h2 ⊢;obtain⟨_,h5,h6⟩:=h2;refine⟨λhm=>?_,h1,⟨hG,h5,λa ha c hc e=>?_⟩,λa ha c hc e=>?_⟩
 ·rcases dF.1 hm with hm|hm
  ·exact hb (by simp[hm])
  rcases dF.1 hm with hm|hm
  ·rcases hs _ hm with h'|h'
   ·exact hb (by simp[h'])
   exact h' ss
  exact hb (by simp[hm])
 ·subst e;rcases hs _ ha with h'|h'
  ·exact h6 a h' a hc rfl
  exact h' (by simp[hc])
 subst e;rcases dF.1 hc with hc|hc
 ·rcases hs _ hc with h'|h'
  ·exact h3 a ha a (by simp[h']) rfl
  exact h' (by simp[ha])
 exact h3 a ha a (by simp[hc]) rfl
def Oe{F:List Nat}{v:vL}{l:List α}{k:Nat}(hm:aZ F w v l)(hk:k<l.length) :
   ∃b a cap G,v=.slice (some ⟨b,a,none⟩) l.length cap/\bT (MH v) F w b (a+k*Rep.size α) G l[k] (λy=>l.set k y):=by
 obtain⟨⟨_,⟨a,cap,_,_,rfl,h1,h2,hc,h4⟩,rfl⟩,hn,hw⟩:=hm;rcases h4 with⟨rfl,_⟩|⟨b,o,rfl,rfl,gg,_⟩
 ·simp at hk
 have e:l=l.take k++(l[k] :: l.drop (k+1)):=by simp
 have gb:=hc;rw[e]at gb;obtain⟨F1,_,x1,_,gh,gi,c1,gj⟩:=aO.split gb;obtain⟨G,F2,cg,x2,rfl,rfl,hg,c2⟩:=gj;subst gh gi;have gc:x1.length=k*Rep.size α:=by rw[aO.len c1,fY];congr 1;omega
 have hlg:=Rep.len hg;have gl:=hn;rw[tZ]at hn;obtain⟨g2,hn⟩:=hn;rw[oE]at hn;obtain⟨_,gd,gn⟩:=hn;rw[oE]at gd;obtain⟨gp,_,gq⟩:=gd;obtain⟨r1,r2⟩:=wU gg;obtain⟨rg,r3⟩:=wU r2;rw[gc]at rg r3;have g3:∃c e,w.heap[b]?=some (.cells c e (0,0)):=hw b ss;refine⟨b,o,cap,G,rfl,⟨cg,hg,rg,gp,hw.sub sd,λh=>g2 (by simp[h]),g3⟩,by simp +contextual,λw' G' y' g1 hO hs=>?_⟩;obtain⟨g4,gf,gr,g5,g9,_,g0⟩:=hO;have gs:=Rep.len gf
 have D:∀c∈F1,w'.heap[c]?=w.heap[c]?:=λc O=>by
   refine g1.chg.block c (aO.lt c1 c O) λhm=>?_;rcases bF.1 hm with rfl|hm
   ·exact g2 (by simp[O])
   exact gn c O c (by simp[hm]) rfl
 have M:∀c∈F2,w'.heap[c]?=w.heap[c]?:=λc O=>by
   refine g1.chg.block c (aO.lt c2 c O) λhm=>?_;rcases bF.1 hm with rfl|hm
   ·exact g2 (by simp[O])
   exact gq c hm c O rfl
 refine⟨b :: (F1++(G'++F2)),⟨⟨_,⟨some ⟨b,o,none⟩,cap,F1++(G'++F2),x1++(g4++x2),ss,by simpa using h1,h2,?_,.inr ⟨b,o,rfl,rfl,?_,?_⟩⟩,rfl⟩,J0 gl g5 hs,?_⟩,?_⟩
 ·have:l.set k y'=l.take k++(y' :: l.drop (k+1)):=by rw[ZN];simp[hk]
  rw[this];exact aO.append (aO.keep c1 D) ⟨G',F2,g4,x2,rfl,rfl,gf,aO.keep c2 M⟩
 ·refine Eh (g1.range g3 r1 (.inl oo)) (Eh (by rw[gc];exact gr) ?_);have e3:o+x1.length+g4.length=o+k*Rep.size α+cg.length:=oo;rw[e3];exact g1.range g3 r3 (.inr oo)
 ·obtain⟨c,e,h⟩:=g0;exact(Array.getElem?_eq_some_iff.1 h).1
 ·intro c C;rcases bF.1 C with rfl|C
  ·exact g0
  rcases dF.1 C with C|C
  ·exact(hw.sub (G:=F1) sd).keep D c C
  rcases dF.1 C with C|C
  ·exact g9 c C
  exact(hw.sub (G:=F2) sd).keep M c C
 intro c C;rcases bF.1 C with rfl|C
 ·exact .inl ss
 rcases dF.1 C with C|C
 ·exact .inl (by simp[C])
 rcases dF.1 C with C|C
 ·exact .inr C
 exact .inl (by simp[C])
section pair
variable {γ:Type}
def bT.fst{H:List Nat->wD->γ->Prop}{F:List Nat}{b o:Nat}{G:List Nat}{p:α×β}{upd:α×β->γ}(h:bT H F w b o G p upd) :
   ∃G1,bT H F w b o G1 p.1 (λy=>upd (y,p.2)):=by
 obtain⟨⟨_,⟨G1,G2,c1,c2,rfl,rfl,h1,h2⟩,hr,hn,hw,hb,g9⟩,D,g0⟩:=h;obtain⟨r1,r2⟩:=wU hr;have gb:=Rep.len h1;have:=Rep.len h2;rw[oE]at hn;obtain⟨gg,gh,gc⟩:=hn;simp only[dF,not_or]at hb;refine⟨G1,⟨c1,h1,r1,gg,hw.sub sd,hb.1,g9⟩,λc hc=>D c (by rcases bF.1 hc with rfl|hc<;>simp_all),λw' G' y' g1 hO hs=>?_⟩;obtain⟨gd,gf,gi,g2,g3,g4,g5⟩:=hO
 have C:∀c∈G2,w'.heap[c]?=w.heap[c]?:=λc hc=>by
   refine g1.chg.block c (Rep.lt h2 c hc) λhm=>?_;rcases bF.1 hm with rfl|hm
   ·exact hb.2 hc
   exact gc c hm c hc rfl
 have gj:∀c∈G'++G2,c∈G1++G2\/c∉F:=λc hc=>by
   rcases dF.1 hc with hc|hc
   ·rcases hs c hc with h|h
    ·exact .inl (by simp[h])
    exact .inr h
   exact .inl (by simp[hc])
 have gl:(G'++G2).Nodup:=by
   rw[oE];refine⟨g2,gh,λa ha c hc e=>?_⟩;subst e;rcases hs a ha with h|h
   ·exact gc a h a hc rfl
   exact h (D a (by simp[hc]))
 obtain⟨F',hM,gn⟩:=g0 w' (G'++G2) (y',p.2) (g1.mono (lr _) (by simp only[Rep.size];omega) sd)
   ⟨gd++c2,⟨G',G2,gd,c2,rfl,rfl,gf,Rep.keep h2 C⟩,Eh gi (by
     rw[Rep.len gf,<-gb];exact g1.range g9 r2 (.inr (by rw[gb];exact iD _))),gl,g3.append ((hw.sub sd).keep C),by simp[g4,hb.2],g5⟩ gj
 refine⟨F',hM,λc hc=>?_⟩;rcases gn c hc with h|h
 ·exact .inl h
 rcases dF.1 h with h|h
 ·exact .inr h
 exact .inl (D c (by simp[h]))
def bT.snd{H:List Nat->wD->γ->Prop}{F:List Nat}{b o:Nat}{G:List Nat}{p:α×β}{upd:α×β->γ}(h:bT H F w b o G p upd) :
   ∃G1,bT H F w b (o+Rep.size α) G1 p.2 (λy=>upd (p.1,y)):=by
 obtain⟨⟨_,⟨G1,G2,c1,c2,rfl,rfl,h1,h2⟩,hr,hn,hw,hb,gb⟩,D,g0⟩:=h;obtain⟨r1,r2⟩:=wU hr;have g1:=Rep.len h1;rw[oE]at hn;obtain⟨gf,gg,gc⟩:=hn;simp only[dF,not_or]at hb;rw[g1]at r2;refine⟨G2,⟨c2,h2,r2,gg,hw.sub sd,hb.2,gb⟩,λc hc=>D c (by rcases bF.1 hc with rfl|hc<;>simp_all),λw' G' y' g2 hO hs=>?_⟩;obtain⟨gd,gh,gi,g3,g4,g5,g9⟩:=hO
 have C:∀c∈G1,w'.heap[c]?=w.heap[c]?:=λc hc=>by
   refine g2.chg.block c (Rep.lt h1 c hc) λhm=>?_;rcases bF.1 hm with rfl|hm
   ·exact hb.1 hc
   exact gc c hc c hm rfl
 have gj:∀c∈G1++G',c∈G1++G2\/c∉F:=λc hc=>by
   rcases dF.1 hc with hc|hc
   ·exact .inl (by simp[hc])
   rcases hs c hc with h|h
   ·exact .inl (by simp[h])
   exact .inr h
 have gl:(G1++G').Nodup:=by
   rw[oE];refine⟨gf,g3,λa ha c hc e=>?_⟩;subst e;rcases hs a hc with h|h
   ·exact gc a ha a h rfl
   exact h (D a (by simp[ha]))
 obtain⟨F',hM,gn⟩:=g0 w' (G1++G') (p.1,y') (g2.mono oo (by simp only[Rep.size];omega) sd)
   ⟨c1++gd,⟨G1,G',c1,gd,rfl,rfl,Rep.keep h1 C,gh⟩,Eh (g2.range gb r1 (.inl (by rw[g1];exact iD _))) (by rw[g1];exact gi),gl,((hw.sub sd).keep C).append g4,by simp[hb.1,g5],g9⟩ gj
 refine⟨F',hM,λc hc=>?_⟩;rcases gn c hc with h|h
 ·exact .inl h
 rcases dF.1 h with h|h
 ·exact .inl (D c (by simp[h]))
 exact .inr h
def bT.row{H:List Nat->wD->γ->Prop}{F:List Nat}{b o:Nat}{G:List Nat}{l:List β}{upd:List β->γ}(h:bT H F w b o G l upd) :
   ∃u,aZ G w u l/\w.rangeAt b o [u]/\(∀c∈G,c∈F) /\
     ∀w' G' l',cH G w w'->aZ G' w' u l'->(∀c∈G',c∈G\/c∉F)->∃F',H F' w' (upd l')/\∀c∈F',c∈F\/c∈G':=by
 obtain⟨⟨cs,g0,hr,hn,hw,hb,g9⟩,g1,g2⟩:=h;have gd:∃u,cs=[u]:=by obtain⟨a,cap,Fi,xs,rfl,_⟩:=g0;exact⟨_,rfl⟩
 obtain⟨u,rfl⟩:=gd;refine⟨u,⟨⟨_,g0,rfl⟩,hn,hw⟩,hr,λc hc=>g1 c (by simp[hc]),λw' G' l' gb hM hs=>?_⟩;have gf:b<w.heap.size:=by obtain⟨c,e,h⟩:=g9;exact(Array.getElem?_eq_some_iff.1 h).1
 have g3:w'.heap[b]?=w.heap[b]?:=gb.block b gf hb;obtain⟨⟨gg,C,gc⟩,gh,gi⟩:=hM
 have g4:gg=[u]:=by
   obtain⟨a,cap,Fi,xs,rfl,_⟩:=C;simp only[fF,Rep.agg,cond_false,EM]at gc;rw[gc]
 subst g4
 have g5:b∉G':=λhm=>by
   rcases hs b hm with h|h
   ·exact hb h
   exact h (g1 b ss)
 exact g2 w' G' l' ⟨gb.mono sd,λc e hc=>⟨c,by rw[g3];exact hc,λ_ _=>rfl⟩⟩
   ⟨_,C,yT hr g3,gh,gi,g5,by obtain⟨c,e,h⟩:=g9;exact⟨c,e,by rw[g3];exact h⟩⟩ hs
end pair
def Ch{t by_ b o:Nat}{G:List Nat}{y y':β}{u:vL}{G':List Nat}{K:wD->Prop}(ht:cT P t=some (Rep.size β,by_,Rep.agg β))(h:nL G w b o y)
   (hu:nC G' w u y') (hn:G'.Nodup) (g3:Wr G' w) (hb:b∉G') (k:∀w',mR b o (Rep.size β) [] w w'->nL G' w' b o y'->K w'):fA P (Instr.storeAt t (pT b o) u) w K:=by
 obtain⟨us,hr,rfl⟩:=hu;obtain⟨cs,g4,ha,_,_,_,c,e,hc⟩:=h;have hl0:=Rep.len g4;have hlu:=Rep.len hr;have g5:=Rep.pos (α:=β)
 have g0:∀j,j<cs.length->c[o+j]?=cs[j]?:=by
   intro j hj;have:=ha j cs[j] (by simp[hj]);simpa[World.cell?,hc,hj]using this
 have g1:o+Rep.size β<=c.size:=by
   have hj:cs.length-1<cs.length:=oo;have:=g0 (cs.length-1) hj;rw[List.getElem?_eq_getElem hj]at this;have:=(Array.getElem?_eq_some_iff.1 this).1;omega
 have g9:=UQ (P:=P) (e:=e) (cur:=c) ht hr hc g1;have D:=setRow_heap w b c ((c.toList.take o++us++c.toList.drop (o+us.length)).toArray) e _ hc;refine⟨_,g9,k _ ⟨(IM w b _).mono ss,λ_ _ g2=>?_⟩ ?_⟩
 ·rw[hc]at g2;simp only[iU,Obj.cells.injEq,and_true]at g2;obtain⟨rfl,rfl⟩:=g2;refine⟨_,D,λj hj=>?_⟩;simp only[List.getElem?_toArray];rcases hj with hj|hj
  ·rw[fR,List.getElem?_append_left (by simp only[fY,sM];omega),List.getElem?_take,aP hj,Array.getElem?_toList]
  rw[List.getElem?_append_right (by simp only[bX,fY,sM];omega),List.getElem?_drop,Array.getElem?_toList];congr 1;simp only[bX,fY,sM];omega
 have C:∀x∈G',(w.setRow b ((c.toList.take o++us++c.toList.drop (o+us.length)).toArray)).heap[x]?=w.heap[x]?:=λx hx=>
   (IM w b _).block x (g3.lt x hx) (by simp;exactλe=>hb (e▸hx))
 refine⟨us,Rep.keep hr C,λj _ hv=>?_,hn,g3.keep C,hb,_,e,D⟩;have hj:j<us.length:=(List.getElem?_eq_some_iff.1 hv).1;simp only[World.cell?,D];simp only[Eo,DH,if_false,List.getElem?_toArray];rw[fR,List.getElem?_append_right (by simp only[fY,sM];omega),List.getElem?_append_left (by simp only[fY,sM];omega),<-hv];congr 1;simp only[fY,sM];omega
def WX{t by_ b o:Nat}{H:List Nat->wD->α->Prop}{F G:List Nat}{y y':β}{upd:β->α}{u:vL}{G':List Nat}{K:wD->Prop}(ht:cT P t=some (Rep.size β,by_,Rep.agg β))(h:bT H F w b o G y upd)
   (hu:aZ G' w u y') (hs:∀c∈G',c∈G\/c∉F) (k:∀w',cH F w w'->(∃F',H F' w' (upd y')/\∀c∈F',c∈F\/c∈G')->K w'):fA P (Instr.storeAt t (pT b o) u) w K:=by
 have g0:b∉G':=λhm=>by
   rcases hs b hm with h'|h'
   ·obtain⟨_,_,_,_,_,hb,_⟩:=h.here;exact hb h'
   exact h' (h.sub b ss)
 refine Ch ht h.here hu.own hu.nodup hu.wr g0 λw' g1 hO=>k w' (g1.chg.mono λc hc=>h.sub c (by simp at hc;simp[hc])) ?_;obtain⟨F',h1,h2⟩:=h.back w' G' y' (g1.mono (lr _) (lr _) ss) hO hs;exact⟨F',h1,h2⟩
end
class aV (α:Type) [Rep α] where
 zv:α
 zc:List vL
 zr:∀w,rep [] w zc zv
instance:aV Int:=⟨0,[iV 0],λ_=>⟨rfl,rfl,by unfold bR;omega⟩⟩
instance:aV Bool:=⟨false,[.bool false],λ_=>⟨rfl,rfl⟩⟩
instance:aV ByteArray:=⟨ByteArray.empty,[.string ByteArray.empty],λ_=>⟨rfl,rfl,vS _⟩⟩
instance{α:Type}[Rep α]:aV (List α):=⟨[],[.slice none 0 0],λ_=>⟨none,0,[],[],rfl,lr _,z0 _,⟨rfl,rfl⟩,.inl ⟨rfl,rfl⟩⟩⟩
instance{α β:Type}[Rep α][Rep β][aV α][aV β]:aV (α×β):=⟨((aV.zv:α),(aV.zv:β)),aV.zc α++aV.zc β,λw=>⟨[],[],_,_,rfl,rfl,aV.zr w,aV.zr w⟩⟩
def aK{α:Type}[Rep α](lo hi:Nat)(w:wD)(v:vL)(x:α):Prop:=∃F,aZ F w v x/\∀b∈F,lo<=b/\b<hi
structure aN(lo hi:Nat)(w w':wD):Prop where
 os:w'.os=w.os
 tape:w'.tape=w.tape
 output:w'.output=w.output
 size:w.heap.size<=w'.heap.size
 block:∀b,b<w.heap.size->(b<lo\/hi<=b)->w'.heap[b]?=w.heap[b]?
section
variable {w w':wD}{α:Type}[Rep α]{lo hi a b:Nat}{v:vL}{x:α}
def cH.toI{F:List Nat}(h:cH F w w')(hF:∀ b∈F,lo<=b/\b<hi):aN lo hi w w':=
 ⟨h.os,h.tape,h.output,h.size,λi hi' ho=>h.block i hi' λe=>by have:=hF i e;omega⟩
def aB.toI(h:aB w w'):aN lo hi w w':=⟨h.os,h.tape,h.output,h.size,λi hi' _=>h.block i hi'⟩
def aN.refl(w:wD):aN lo hi w w:=⟨rfl,rfl,rfl,lr _,λ_ _ _=>rfl⟩
def aN.trans{w'':wD}(h:aN lo hi w w')(k:aN lo hi w' w''):aN lo hi w w'':=
 ⟨k.os.trans h.os,k.tape.trans h.tape,k.output.trans h.output,eH h.size k.size,λi hi' ho=>(k.block i (kP hi' h.size) ho).trans (h.block i hi' ho)⟩
def aN.mono{lo' hi':Nat}(h:aN lo hi w w')(h1:lo'<=lo)(h2:hi<=hi'):aN lo' hi' w w':=
 ⟨h.os,h.tape,h.output,h.size,λi hi' ho=>h.block i hi' oo⟩
def aB.xI{c:wD}(h:aB w w')(k:aN lo hi w' c)(hl:w.heap.size<=lo):aB w c:=
 ⟨k.os.trans h.os,k.tape.trans h.tape,k.output.trans h.output,eH h.size k.size,λi hi'=>(k.block i (kP hi' h.size) oo).trans (h.block i hi')⟩
def eG.toI(h:eG lo w v x):aK lo w.heap.size w v x:=by
 obtain⟨F,hm,hl⟩:=h;exact⟨F,hm,λb hb=>⟨hl b hb,hm.lt b hb⟩⟩
def aK.own(h:aK lo hi w v x):eG lo w v x:=by
 obtain⟨F,hm,hl⟩:=h;exact⟨F,hm,λb hb=>(hl b hb).1⟩
def aK.is(h:aK lo hi w v x):Is w v x:=by obtain⟨_,hm,_⟩:=h;exact hm.is
def aK.ext(h:aK lo hi w v x)(hx:aB w w'):aK lo hi w' v x:=by obtain⟨F,hm,hl⟩:=h;exact⟨F,hm.ext hx,hl⟩
def aK.chg(h:aK lo hi w v x)(hc:aN a b w w')(hd:hi<=a\/b<=lo):aK lo hi w' v x:=by
 obtain⟨F,hm,hl⟩:=h;exact⟨F,hm.keep λc g0=>hc.block c (hm.lt c g0) (by have:=hl c g0;omega),hl⟩
def aK.mono{g0 g1:Nat}(h:aK lo hi w v x)(h1:g0<=lo)(h2:hi<=g1):aK g0 g1 w v x:=by
 obtain⟨F,hm,hl⟩:=h;exact⟨F,hm,λb hb=>by have:=hl b hb;omega⟩
def fH{α:Type}[Rep α](lo hi:Nat)(w:wD)(g:Nat)(x:α):Prop:=∃F,nL F w g 0 x/\∀b∈F,lo<=b/\b<hi
def nL.keep{F:List Nat}{g o:Nat}(h:nL F w g o x)(hk:∀ c∈g :: F,w'.heap[c]?=w.heap[c]?):nL F w' g o x:=by
 obtain⟨cs,hr,ha,hn,hw,hb,c,e,hc⟩:=h;have hg:=hk g ss;exact⟨cs,Rep.keep hr λb hb=>hk b (by simp[hb]),yT ha hg,hn,hw.keep λb hb=>hk b (by simp[hb]),hb,c,e,by rw[hg];exact hc⟩
def fH.lt{g:Nat}(h:fH lo hi w g x):g<w.heap.size:=by obtain⟨_,h,_⟩:=h;exact h.lt
def nL.lts{F:List Nat}{g o:Nat}(h:nL F w g o x):∀c∈g :: F,c<w.heap.size:=by
 intro c hc;rcases bF.1 hc with rfl|hc
 ·exact h.lt
 obtain⟨_,hr,_⟩:=h;exact Rep.lt hr c hc
def fH.ext{g:Nat}(h:fH lo hi w g x)(hx:aB w w'):fH lo hi w' g x:=by
 obtain⟨F,h,hl⟩:=h;exact⟨F,h.keep λc hc=>hx.heap (h.lts c hc),hl⟩
def fH.chg{g:Nat}(h:fH lo hi w g x)(hc:aN a b w w')(hd:hi<=a\/b<=lo)(hg:g<a\/b<=g):fH lo hi w' g x:=by
 obtain⟨F,h,hl⟩:=h;refine⟨F,h.keep λc g0=>hc.block c (h.lts c g0) ?_,hl⟩;rcases bF.1 g0 with rfl|g0
 ·omega
 have:=hl c g0;omega
def fH.at{g:Nat}(h:fH lo hi w g x):At w g 0 x:=by obtain⟨_,h,_⟩:=h;exact h.at
def fH.own{g:Nat}(h:fH lo hi w g x):∃v,aK lo hi w v x/\∃cs F,Rep.rep F w cs x/\w.rangeAt g 0 cs/\v=fF α cs:=by
 obtain⟨F,⟨cs,hr,ha,hn,hw,_⟩,hl⟩:=h;exact⟨fF α cs,⟨F,⟨⟨cs,hr,rfl⟩,hn,hw⟩,hl⟩,cs,F,hr,ha,rfl⟩
section
variable {P:pG}{w0:wD}
def sY[aV α]{e:TypeId}{K:vL->wD->Prop}(hz:kO P e=some (aV.zc α))
   (k:∀w',aB w w'->fH w'.heap.size w'.heap.size w' w.heap.size ((aV.zv:α))->K (pT w.heap.size 0) w'):OP P (Instr.alloc e true (.tuple #[])) w K:=
 rK hz λw' hx hB=>k w' hx ⟨[],⟨aV.zc α,aV.zr w',hB.range,kM,Wr.nil _,ss,_,_,hB⟩,ss⟩
def DJ{t by_ g:Nat}{K:vL->Prop}(ht:cT P t=some (Rep.size α,by_,Rep.agg α))(h:fH lo hi w0 g x)(hx:aB w0 w)(k:∀ v,aK lo hi w0 v x->K v) :
   RD P (Instr.loadAt t (pT g 0)) w K:=by
 obtain⟨v,ho,_,_,hr,ha,rfl⟩:=h.own;exact dY (λ_ g0=>OK ht (rH hr xx) (yV ha xx)) (k _ ho)
def uX{t by_ g:Nat}{K:vL->Prop}(ht:cT P t=some (Rep.size α,by_,Rep.agg α))(h:fH lo hi w0 g x)(hx:aB w0 w)(k:∀ v,aK lo hi w0 v x->K v) :
   RD P (qP t (pT g 0)) w K:=by
 obtain⟨v,ho,_,_,hr,ha,rfl⟩:=h.own;refine dY (λ_ g0=>?_) (k _ ho);have:=OK ht (rH hr (hx.t g0)) (yV ha (hx.t g0));simpa[qP,asAddr,Instr.loadAt,Instr.sureAddr]using this
def Zx{β:Type}[Rep β]{t by_ g o:Nat}{F G:List Nat}{y y':β}{upd:β->α}{u:vL}{lo2 hi2:Nat}{K:wD->Prop}(ht:cT P t=some (Rep.size β,by_,Rep.agg β))(hL:bT (VH g) (g :: F) w g o G y upd)(hF:∀ b∈F,lo<=b/\b<hi)
   (hu:aK lo2 hi2 w u y') (h1:hi<=lo2) (h2:g<lo2) (k:∀w',aN g (g+1) w w'->(∀lo',lo'<=lo->lo'<=lo2->∀hi',hi<=hi'->hi2<=hi'->fH lo' hi' w' g (upd y'))->K w'):fA P (Instr.storeAt t (pT g o) u) w K:=by
 obtain⟨G',hM,g0⟩:=hu
 have hs:∀c∈G',c∈G\/c∉g :: F:=λc hc=>.inr λhm=>by
   have:=g0 c hc;rcases bF.1 hm with rfl|hm
   ·omega
   have:=hF c hm;omega
 have g1:g∉G':=λh=>by have:=g0 g h;omega
 refine Ch ht hL.here hM.own hM.nodup hM.wr g1 λw' g2 hO=>k w' (g2.chg.toI ss) ?_;obtain⟨F',h3,h4⟩:=hL.back w' G' y' (g2.mono (lr _) (lr _) ss) hO hs;intro lo' _ _ hi' _ _;refine⟨F',h3,λc hc=>?_⟩;rcases h4 c hc with h|h
 ·rcases bF.1 h with rfl|h
  ·obtain⟨_,_,_,_,_,hn,_⟩:=h3;exact absurd hc hn
  have:=hF c h;omega
 have:=g0 c h;omega
def oU{t by_ g:Nat}{x0:α}{lo0 g4:Nat}{u:vL}{K:wD->Prop}(ht:cT P t=some (Rep.size α,by_,Rep.agg α))(hv:fH lo0 g4 w g x0)(hu:aK lo hi w u x)(hg:g<lo\/hi<=g)
   (k:∀w',aN g (g+1) w w'->fH lo hi w' g x->K w'):fA P (Instr.storeAt t (pT g 0) u) w K:=by
 obtain⟨_,hO,_⟩:=hv;obtain⟨G',hM,g1⟩:=hu;have g0:g∉G':=λh=>by have:=g1 g h;omega
 exact Ch ht hO hM.own hM.nodup hM.wr g0 λw' g2 g3=>k w' (g2.chg.toI ss) ⟨G',g3,g1⟩
end
def ownI_int{x:Int}(h:bR x):aK lo hi w (iV x) x:=⟨[],⟨⟨_,⟨rfl,rfl,h⟩,rfl⟩,kM,Wr.nil w⟩,ss⟩
def Dl{x:ByteArray}(h:x.size<=maxLen):aK lo hi w (.string x) x:=⟨[],⟨⟨_,⟨rfl,rfl,h⟩,rfl⟩,kM,Wr.nil w⟩,ss⟩
end
end Go.Sh
