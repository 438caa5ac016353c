/-
  A reading of a translated Go function as nested predicates (verification conditions), and its soundness: what the predicates say of a function's body holds of its calls in the model.
-/
import Derived.Calls
import Derived.Orders
import Derived.Below
import Derived.Laws.Sem
namespace Go.Sh
set_option linter.unusedVariables false
set_option linter.unusedSimpArgs false
open Go.RowKit (Below)

abbrev Env := Nat → Value
/-- the world has grown: nothing that was there has turned -/
abbrev Ext (w w' : World) : Prop := Below w.heap.size w w'
theorem Ext.refl (w : World) : Ext w w := Below.refl _ _
theorem Ext.trans {a b c : World} (h : Ext a b) (k : Ext b c) : Ext a c := Below.trans h (Below.mono k h.size)

def ev (s : Env) : Operand → Value
  | .tmp t => s t
  | .const v => v
  | .global g => .pointer (some ⟨g, 0, none⟩)
  | .func f => .func (.func f) #[] #[]
def upd (s : Env) (d : Nat) (v : Value) : Env := fun t => bif Nat.beq t d then v else s t
def put (s : Env) (d : Option Nat) (v : Value) : Env := match d with | some d => upd s d v | none => s
def nth {α : Type} : List α → Nat → Option α
  | [], _ => none
  | x :: _, 0 => some x
  | _ :: l, n + 1 => nth l n
def nthD (l : List Value) (t : Nat) : Value := match nth l t with | some v => v | none => undef
def inMask (m t : Nat) : Bool := Nat.beq (Nat.land 1 (Nat.shiftRight m t)) 1
def mix (m : Nat) (s u : Env) : Env := fun t => bif inMask m t then u t else s t

/-- a branch on a bool -/
def BR (v : Value) (kt kf : Prop) : Prop := match v with | .bool true => kt | .bool false => kf | _ => False
/-- a branch on a bool that may not have been worked out -/
def GBR (v : Value) (kt kf ks : Prop) : Prop := match v with | .bool true => kt | .bool false => kf | .tuple a => (bif Nat.beq a.size 0 then ks else False) | _ => False
/-- a reading operation: it answers v in this world and in whatever grows out of it, and leaves the world alone -/
inductive RD (P : Program) (m : Sem Value) (w : World) (K : Value → Prop) : Prop
  | mk (v : Value) (h : ∀ w', Ext w w' → m.run P w' = .ok v w') (k : K v) : RD P m w K
/-- the world has grown; of what was there only blocks in X have turned -/
structure ExtX (X : Nat → Prop) (w w' : World) : Prop where
  os : w'.os = w.os
  tape : w'.tape = w.tape
  output : w'.output = w.output
  size : w.heap.size ≤ w'.heap.size
  block : ∀ b, b < w.heap.size → ¬ X b → w'.heap[b]? = w.heap[b]?
/-- which functions stand without a body; which blocks may turn in a region -/
structure Xt where
  l : List Nat
  X : Option (Nat → Prop)
def Xt.rel (x : Xt) (w w' : World) : Prop := match x.X with | none => Ext w w' | some X => ExtX X w w'
/-- a reading operation, where blocks in X may turn -/
inductive RDX (P : Program) (X : Nat → Prop) (m : Sem Value) (w : World) (K : Value → Prop) : Prop
  | mk (v : Value) (h : ∀ w', ExtX X w w' → m.run P w' = .ok v w') (k : K v) : RDX P X m w K
inductive OP (P : Program) (m : Sem Value) (w : World) (K : Value → World → Prop) : Prop
  | mk (v : Value) (w' : World) (h : m.run P w = .ok v w') (k : K v w') : OP P m w K
inductive OPU (P : Program) (m : Sem Unit) (w : World) (K : World → Prop) : Prop
  | mk (w' : World) (h : m.run P w = .ok () w') (k : K w') : OPU P m w K
inductive CALL (P : Program) (f : FuncId) (args : List Value) (w : World) (K : Value → World → Prop) : Prop
  | mk (h : Calls P f args.toArray w fun e w' => ∃ v, e = .returned v ∧ K v w') : CALL P f args w K
inductive OPN (P : Program) (m : Sem Next) (w : World) (K : Value → World → Prop) : Prop
  | value (v : Value) (w' : World) (h : m.run P w = .ok (.value v) w') (k : K v w') : OPN P m w K
  | skip (w' : World) (h : m.run P w = .ok .skip w') (k : K undef w') : OPN P m w K
  | enter (f : FuncId) (args : Array Value) (w' : World) (h : m.run P w = .ok (.enter f args) w') (k : Calls P f args w' fun e w'' => ∃ v, e = .returned v ∧ K v w'') : OPN P m w K
  | row (r : String) (args : Array Value) (w' : World) (h : m.run P w = .ok (.row r args) w') (k : Go.Rows P r args w' K) : OPN P m w K
def nilOk : Value → Bool
  | .pointer (some _) => true
  | .iface _ _ => true
  | .func (.func _) _ _ => true
  | _ => false
inductive NIL (v : Value) (k : Prop) : Prop
  | mk (h : nilOk v = true) (hk : k) : NIL v k
inductive LOOPI (L : List Nat) (init : List Value) (w : World) (body : Env → World → (List Value → World → Prop) → Prop) : Prop
  | mk (I : Nat → List Value → World → Prop) (m : Nat) (h0 : I m init w)
      (hr : ∀ m u w', I m (L.map u) w' → body u w' (fun us w'' => ∃ m', m' < m ∧ I m' us w'')) : LOOPI L init w body
inductive JOIN (L : List Nat) (body : (List Value → World → Prop) → Prop) (rest : Env → World → Prop) : Prop
  | mk (J : List Value → World → Prop) (hb : body J) (hr : ∀ u w', J (L.map u) w' → rest u w') : JOIN L body rest

def isC : Operand → Operand
  | .const _ => .const undef
  | _ => .tmp 0
def bin (op : BinOp) (t : TypeId) (x y : Operand) (a b : Value) : Sem Value := do eqGuard op t x y a b; binOp op t a b
def callV (f : Value) (args : List Value) : Sem Next := do let d ← Deferred.ofValue f args.toArray; invoke d.target d.args
def callM (r : Value) (m : String) (args : List Value) : Sem Next := invoke (.fn (.method m) #[]) (#[r] ++ args.toArray)
def prs (s : Operand → Value) : List (Nat × Operand) → List (Nat × Value)
  | [] => []
  | (i, x) :: r => (i, s x) :: prs s r

structure Cfg where
  ext : List Nat
  joins : List (Nat × Nat × List Nat)
  loops : List (Nat × Nat × List Nat)
  draws : List (Nat × List Nat × Nat)
  pars : List (Nat × Nat × Nat) := []
  xs : List Nat := []

def find {α : Type} : List (Nat × α) → Nat → Option α
  | [], _ => none
  | (k, a) :: r, n => bif Nat.beq k n then some a else find r n

/-- the operations that only read -/
def rdSem (o : Oper) (ρ : Operand → Value) : Option (Sem Value) :=
  match o.op with
  | .build t ps => some (Instr.build t (prs ρ ps.toList).toArray)
  | .load t a => some (Instr.loadAt t (ρ a))
  | .binOp op t x y _ => some (bin op t (isC x) (isC y) (ρ x) (ρ y))
  | .unOp op _ x => some (Op.unary op (ρ x))
  | .convert a b x => some (convert a b (ρ x))
  | .makeInterface t x => some (Instr.makeInterface t (ρ x))
  | .makeFunc fn first captured => some (Instr.makeFunc fn (first.toList.map ρ).toArray (captured.toList.map ρ).toArray)
  | .slice t x lo hi mx => some (Instr.sliceAt t (ρ x) (lo.map ρ) (hi.map ρ) (mx.map ρ))
  | .fieldAddr t x f => some (Instr.fieldAt t (ρ x) f)
  | .field t x f => some (Instr.field t (ρ x) f)
  | .indexAddr t x i => some (Instr.indexAt t (ρ x) (ρ i))
  | .index t x i => some (Instr.index t (ρ x) (ρ i))
  | .lookup t m k ok => some (Instr.lookup t (ρ m) (ρ k) ok)
  | .extract t i => some (Instr.extract (ρ t) i)
  | .typeAssert x t u ok => some (Instr.typeAssert (ρ x) t u ok)
  | .call { callee := .builtin .len, args, argTypes } => some (Builtin.len_ argTypes o.type (args.toList.map ρ).toArray)
  | .call { callee := .builtin .cap, args, argTypes } => some (Builtin.cap_ argTypes o.type (args.toList.map ρ).toArray)
  | .call { callee := .builtin .min, args, argTypes } => some (Builtin.min_ argTypes o.type (args.toList.map ρ).toArray)
  | .call { callee := .builtin .max, args, argTypes } => some (Builtin.max_ argTypes o.type (args.toList.map ρ).toArray)
  | _ => none

def opK (P : Program) (ext : Xt) (o : Oper) (ρ : Operand → Value) (w : World) (K : Value → World → Prop) : Prop :=
  match o.op with
  | .move x => K (ρ x) w
  | .assign x => K (ρ x) w
  | .pick c a b => BR (ρ c) (K (ρ a) w) (K (ρ b) w)
  | .nilCheck x => NIL (ρ x) (K (ρ x) w)
  | .alloc e => OP P (Instr.alloc e true (.tuple #[])) w K
  | .box e x => OP P (Instr.box e (ρ x)) w K
  | .buildSlice t n ps => OP P (Instr.buildSlice t n (prs ρ ps.toList).toArray) w K
  | .store t a x => OPU P (Instr.storeAt t (ρ a) (ρ x)) w (K undef)
  | .makeMap t r => OP P (Instr.makeMap t (r.map ρ)) w K
  | .makeSlice t l c => OP P (Instr.makeSlice t (ρ l) (ρ c)) w K
  | .mapUpdate t m k x => OPU P (Instr.mapUpdate t (ρ m) (ρ k) (ρ x)) w (K undef)
  | .insert t m k x => OPU P (Instr.mapUpdate t (ρ m) (ρ k) (ρ x)) w (K undef)
  | .mapEntry t m k => OP P (Instr.mapEntry t (ρ m) (ρ k)) w K
  | .entryStore t m k x => OPU P (Instr.entryStore t (ρ m) (ρ k) (ρ x)) w (K undef)
  | .range t x => OP P (Instr.range t (ρ x)) w K
  | .next it b => OP P (Instr.next (ρ it) b o.type) w K
  | .entry it => OP P (Instr.entry (ρ it)) w K
  | .call { callee := .value (.func f), args, .. } => bif ext.l.elem f then OPN P (callFunc f (args.toList.map ρ).toArray) w K else CALL P f (args.toList.map ρ) w K
  | .call { callee := .value x, args, .. } => OPN P (callV (ρ x) (args.toList.map ρ)) w K
  | .call { callee := .invoke r m, args, .. } => OPN P (callM (ρ r) m (args.toList.map ρ)) w K
  | .call { callee := .builtin .append, args, argTypes } => OP P (Builtin.append_ argTypes o.type (args.toList.map ρ).toArray) w K
  | .call { callee := .builtin .copy, args, argTypes } => OP P (Builtin.copy_ argTypes o.type (args.toList.map ρ).toArray) w K
  | .call { callee := .builtin .delete, args, argTypes } => OP P (Builtin.delete_ argTypes o.type (args.toList.map ρ).toArray) w K
  | .call { callee := .builtin .clear, args, argTypes } => OP P (Builtin.clear_ argTypes o.type (args.toList.map ρ).toArray) w K
  | _ => match rdSem o ρ with
    | some m => (match ext.X with | none => RD P m w (fun v => K v w) | some X => RDX P X m w (fun v => K v w))
    | none => False

def opF (P : Program) (ext : Xt) (o : Oper) (flag : Bool) (s : Env) (w : World) (K : Env → World → Prop) : Prop :=
  opK P ext o (ev s) w (fun v w' => bif flag then (match ext.X with | none => Ext w w' | some X => ExtX X w w') ∧ K (put s o.dst v) w' else K (put s o.dst v) w')
def stepK (P : Program) (ext : Xt) (ol : List Oper) (fl : Nat) (i : Nat) (s : Env) (w : World) (K : Env → World → Prop) : Prop :=
  match nth ol i with
  | none => False
  | some o =>
    match o.guard with
    | none => opF P ext o (inMask fl i) s w K
    | some (j, want) =>
      match (nth ol j).bind (·.dst) with
      | none => False
      | some d => match (nth ol j).bind (·.guard) with
        | none => BR (s d)
          (bif want then opF P ext o (inMask fl i) (upd s d (.bool true)) w K else K (put (upd s d (.bool true)) o.dst undef) w)
          (bif want then K (put (upd s d (.bool false)) o.dst undef) w else opF P ext o (inMask fl i) (upd s d (.bool false)) w K)
        | some _ => GBR (s d)
          (bif want then opF P ext o (inMask fl i) (upd s d (.bool true)) w K else K (put (upd s d (.bool true)) o.dst undef) w)
          (bif want then K (put (upd s d (.bool false)) o.dst undef) w else opF P ext o (inMask fl i) (upd s d (.bool false)) w K)
          (K (put (upd s d undef) o.dst undef) w)
def vcOps (P : Program) (ext : Xt) (ol : List Oper) (fl : Nat) (K : Env → World → Prop) : List Nat → Env → World → Prop
  | [], s, w => K s w
  | i :: r, s, w => stepK P ext ol fl i s w (vcOps P ext ol fl K r)

/-- intervals of blocks, each apart from the others, from lo up to hi -/
def Apart (l : List Nat) (lo hi : Nat) (T : Nat → Nat × Nat) : Prop := (∀ i ∈ l, lo ≤ (T i).1 ∧ (T i).1 ≤ (T i).2 ∧ (T i).2 ≤ hi) ∧ ∀ i ∈ l, ∀ j ∈ l, i ≠ j → (T i).2 ≤ (T j).1 ∨ (T j).2 ≤ (T i).1
def updT (T : Nat → Nat × Nat) (d : Nat) (x : Nat × Nat) : Nat → Nat × Nat := fun t => bif Nat.beq t d then x else T t
def nthL {α : Type} (l : List (List α)) (i : Nat) : List α := match nth l i with | some x => x | none => []
abbrev ParQ := Nat → Env → (Nat → Nat × Nat) → World → Prop
/-- operations in whatever order: what each yields (Q), with the blocks that were there ahead of it and behind it (T), lasts while the world grows; it hangs on its own slot and on those that it was made of -/
inductive PAR (w : World) (deps : List (List (Nat × Nat))) (steps fin : ParQ → Prop) : Prop
  | mk (Q : ParQ) (st : ∀ i u u' T T' w1 w2, Ext w w1 → Ext w1 w2 → (∀ p ∈ nthL deps i, u' p.2 = u p.2 ∧ T' p.1 = T p.1) → Q i u T w1 → Q i u' T' w2) (h1 : steps Q) (h2 : fin Q) : PAR w deps steps fin
def dstOf (ol : List Oper) (j : Nat) : Nat := match (nth ol j).bind (·.dst) with | some d => d | none => 0
def onL : List Edge → List Nat
  | [] => []
  | e :: r => bif Region.binds .any e then e.on :: onL r else onL r
def onD (ol : List Oper) : List Edge → List (Nat × Nat)
  | [] => []
  | e :: r => bif Region.binds .any e then (e.on, dstOf ol e.on) :: onD ol r else onD ol r
def depsGo (ol : List Oper) : Nat → List Oper → List (List (Nat × Nat))
  | _, [] => []
  | i, o :: r => ((i, dstOf ol i) :: onD ol o.after.toList) :: depsGo ol (i + 1) r
def parPre (Q : ParQ) (u : Env) (T : Nat → Nat × Nat) (w : World) : List Edge → Prop
  | [] => True
  | e :: r => bif Region.binds .any e then Q e.on u T w ∧ parPre Q u T w r else parPre Q u T w r
def parSteps (P : Program) (ext : Xt) (ol : List Oper) (m : Nat) (s : Env) (w : World) (Q : ParQ) : Nat → List Oper → Prop
  | _, [] => True
  | i, o :: r => (∀ (u : Env) (T : Nat → Nat × Nat) (w1 : World), Ext w w1 → Apart (onL o.after.toList) w.heap.size w1.heap.size T → parPre Q u T w1 o.after.toList →
      opK P ext o (ev (mix m s u)) w1 (fun v w2 => Ext w1 w2 ∧ Q i (upd u (dstOf ol i) v) (updT T i (w1.heap.size, w2.heap.size)) w2)) ∧ parSteps P ext ol m s w Q (i + 1) r
def parAll (Q : ParQ) (u : Env) (T : Nat → Nat × Nat) (w : World) : Nat → Nat → Prop
  | _, 0 => True
  | i, n + 1 => Q i u T w ∧ parAll Q u T w (i + 1) n
def parK (P : Program) (ext : Xt) (ol : List Oper) (m p : Nat) (s : Env) (w : World) (K : Env → World → Prop) : Prop :=
  PAR w (depsGo ol 0 (ol.take p)) (fun Q => parSteps P ext ol m s w Q 0 (ol.take p))
    (fun Q => ∀ (u : Env) (T : Nat → Nat × Nat) (w1 : World), Ext w w1 → Apart (List.range p) w.heap.size w1.heap.size T → parAll Q u T w1 0 p → vcOps P ext ol 0 K ((List.range ol.length).drop p) (mix m s u) w1)

inductive XR (body : (Nat → Prop) → Prop) : Prop
  | mk (X : Nat → Prop) (h : body X) : XR body
def lit (s : Env) (c : Operand) (b : Bool) : Env := match c with | .tmp t => upd s t (.bool b) | _ => s
def firstRegion : Code → Option Nat
  | .region id _ _ => some id
  | .seq a b => match firstRegion a with | some i => some i | none => firstRegion b
  | .block _ c => firstRegion c
  | .loop c => firstRegion c
  | _ => none
def thenK (K : Exit → Env → World → Prop) (N : Env → World → Prop) : Exit → Env → World → Prop
  | .normal, s, w => N s w
  | e, s, w => K e s w
def blockK (id : Nat) (K : Exit → Env → World → Prop) : Exit → Env → World → Prop
  | .exit j, s, w => bif Nat.beq j id then K .normal s w else K (.exit j) s w
  | e, s, w => K e s w
def World.drew1 (w : World) : World := { w with drawn := w.drawn + 1 }

def vc (P : Program) (g : Cfg) : Code → Env → World → (Exit → Env → World → Prop) → Prop
  | .skip, s, w, K => K .normal s w
  | .region _ ops false, s, w, K => vcOps P ⟨g.ext, none⟩ ops.toList 0 (K .normal) (List.range ops.size) s w
  | .region id ops true, s, w, K =>
    match find g.pars id with
    | some (m, p) => parK P ⟨g.ext, none⟩ ops.toList m p s (World.drew1 w) (K .normal)
    | none =>
      match find g.draws id with
      | some (l, fl) => bif g.xs.elem id then XR (fun X => vcOps P ⟨g.ext, some X⟩ ops.toList fl (K .normal) l s (World.drew1 w)) else vcOps P ⟨g.ext, none⟩ ops.toList fl (K .normal) l s (World.drew1 w)
      | none => False
  | .seq a b, s, w, K =>
    match (firstRegion b).bind (find g.joins) with
    | some (m, L) => JOIN L (fun J => vc P g a s w (thenK K fun s' w' => J (L.map s') w')) (fun u w' => vc P g b (mix m s u) w' K)
    | none => vc P g a s w (thenK K fun s' w' => vc P g b s' w' K)
  | .cond c x y, s, w, K => BR (ev s c) (vc P g x (lit s c true) w K) (vc P g y (lit s c false) w K)
  | .block id c, s, w, K => vc P g c s w (blockK id K)
  | .loop c, s, w, K =>
    match (firstRegion c).bind (find g.loops) with
    | some (m, L) => LOOPI L (L.map s) w fun u w' next => vc P g c (mix m s u) w' (thenK K fun s' w'' => next (L.map s') w'')
    | none => False
  | .exit id, s, w, K => K (.exit id) s w
  | .ret, s, w, K => K .ret s w
  | _, _, _, _ => False

def loadRes (t : TypeId) (v : Value) : Sem Value := do loadVar t (← asAddr v)
def resV (P : Program) (s : Env) (w : World) : List ResultVar → (List Value → Prop) → Prop
  | [], k => k []
  | .tmp t :: r, k => resV P s w r fun vs => k (s t :: vs)
  | .cell a t :: r, k => RD P (loadRes t (s a)) w fun v => resV P s w r fun vs => k (v :: vs)
def one : List Value → Value
  | [v] => v
  | vs => .tuple vs.toArray
def retK (P : Program) (rs : List ResultVar) (R : Value → World → Prop) : Exit → Env → World → Prop
  | .normal, s, w => resV P s w rs fun vs => R (one vs) w
  | .ret, s, w => resV P s w rs fun vs => R (one vs) w
  | _, _, _ => False
def vcF (P : Program) (g : Cfg) (fn : Func) (args : List Value) (w : World) (R : Value → World → Prop) : Prop :=
  match fn.body with
  | some c => vc P g c (nthD args) w (retK P fn.results.toList R)
  | none => False
end Go.Sh
