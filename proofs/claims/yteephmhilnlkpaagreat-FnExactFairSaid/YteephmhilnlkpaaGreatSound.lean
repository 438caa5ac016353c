/-
  The soundness of the reading of XCore: an operation, a region in the order of the text, a region whose order is drawn, a body.
-/
import Derived.Test.YteephmhilnlkpaaGreatCore
namespace Go.Sh
set_option linter.unusedVariables false
set_option linter.unusedSimpArgs false
open Go.RowKit (Below)

def envOf (a : Act) : Env := fun t => a.tmps.getD t undef
theorem ev_envOf (a : Act) : ev (envOf a) = a.eval := by funext x; cases x <;> rfl
theorem nth_eq {α : Type} (l : List α) (i : Nat) : nth l i = l[i]? := by
  induction l generalizing i with
  | nil => cases i <;> rfl
  | cons x l ih => cases i <;> simp [nth, ih]
theorem nth_arr {α : Type} (l : Array α) (i : Nat) : nth l.toList i = l[i]? := by rw [nth_eq]; simp
theorem upd_same (s : Env) (d : Nat) (v : Value) : upd s d v d = v := by simp [upd]
theorem upd_other (s : Env) {d t : Nat} (v : Value) (h : t ≠ d) : upd s d v t = s t := by
  have : Nat.beq t d = false := by rw [Bool.eq_false_iff]; exact fun e => h (Nat.eq_of_beq_eq_true e)
  simp [upd, this]
theorem upd_self {s : Env} {d : Nat} {v : Value} (h : s d = v) : upd s d v = s := by
  funext t
  by_cases e : t = d
  · subst e; rw [upd_same, h]
  · rw [upd_other _ _ e]
theorem upd_comm (s : Env) {d e : Nat} (v u : Value) (h : d ≠ e) : upd (upd s d v) e u = upd (upd s e u) d v := by
  funext t
  by_cases h1 : t = d
  · subst h1; rw [upd_same, upd_other _ _ h, upd_same]
  · by_cases h2 : t = e
    · subst h2; rw [upd_same, upd_other _ _ h1, upd_same]
    · rw [upd_other _ _ h2, upd_other _ _ h1, upd_other _ _ h1, upd_other _ _ h2]
theorem put_comm (s : Env) {x y : Option Nat} (v u : Value) (h : ∀ d, x = some d → y ≠ some d) : put (put s x v) y u = put (put s y u) x v := by
  cases x with
  | none => rfl
  | some d =>
    cases y with
    | none => rfl
    | some e => exact upd_comm s v u (fun he => h d rfl (he ▸ rfl))
theorem put_at {s : Env} {x : Option Nat} {v : Value} {t : Nat} (h : ∀ d, x = some d → t ≠ d) : put s x v t = s t := by
  cases x with
  | none => rfl
  | some d => exact upd_other _ _ (h d rfl)
theorem envOf_put {a : Act} {d : Option Nat} {v : Value} (h : ∀ t, d = some t → t < a.tmps.size) : envOf (a.put d v) = put (envOf a) d v := by
  cases d with
  | none => rfl
  | some d =>
    funext t
    have hd := h d rfl
    by_cases e : t = d
    · subst e; simp [envOf, Act.put, put, upd_same, hd]
    · simp only [put]
      rw [upd_other _ _ e]
      simp [envOf, Act.put, Array.getElem?_setIfInBounds_ne (Ne.symm e)]
theorem put_size (a : Act) (d : Option Nat) (v : Value) : (a.put d v).tmps.size = a.tmps.size := by cases d <;> simp [Act.put]
theorem put_def (a : Act) (d : Option Nat) (v : Value) : (a.put d v).defers = a.defers := by cases d <;> rfl
theorem inMask_eq (m t : Nat) : inMask m t = m.testBit t := by
  unfold inMask Nat.testBit
  show Nat.beq (1 &&& (m >>> t)) 1 = (1 &&& (m >>> t) != 0)
  have h : (1 &&& (m >>> t)) = (m >>> t) % 2 := by rw [Nat.and_comm]; exact Nat.and_one_is_mod _
  rw [h]
  rcases Nat.mod_two_eq_zero_or_one (m >>> t) with h2 | h2 <;> rw [h2] <;> rfl

theorem BR_iff (v : Value) (kt kf : Prop) : BR v kt kf ↔ ∃ b, v = .bool b ∧ (if b then kt else kf) := by
  constructor
  · intro h
    cases v with
    | bool b => exact ⟨b, rfl, by cases b <;> exact h⟩
    | _ => exact h.elim
  · rintro ⟨b, rfl, h⟩
    cases b <;> exact h

theorem prs_eq (ρ : Operand → Value) (ps : Array (Nat × Operand)) : (prs ρ ps.toList).toArray = ps.map fun (i, x) => (i, ρ x) := by
  have : ∀ l : List (Nat × Operand), prs ρ l = l.map fun (i, x) => (i, ρ x) := by
    intro l
    induction l with
    | nil => rfl
    | cons p l ih => obtain ⟨i, x⟩ := p; simp [prs, ih]
  rw [this]
  apply Array.ext'
  simp
theorem args_eq (ρ : Operand → Value) (xs : Array Operand) : (xs.toList.map ρ).toArray = xs.map ρ := by
  apply Array.ext'
  simp
theorem eqGuard_isC (op : BinOp) (t : TypeId) (x y : Operand) (a b : Value) : eqGuard op t (isC x) (isC y) a b = eqGuard op t x y a b := by
  cases x <;> cases y <;> rfl

theorem run_v {P : Program} {m : Sem Value} {w w' : World} {v : Value} (h : m.run P w = .ok v w') : (do pure (Next.value (← m)) : Sem Next).run P w = .ok (.value v) w' := by
  simp [h]
theorem run_u {P : Program} {m : Sem Unit} {w w' : World} (h : m.run P w = .ok () w') : (do m; pure Next.skip : Sem Next).run P w = .ok .skip w' := by
  simp [h]

theorem rdSem_exec {P : Program} {o : Oper} {ρ : Operand → Value} {m : Sem Value} {w w' : World} {v : Value} (hm : rdSem o ρ = some m) (h : m.run P w = .ok v w') :
    (execOp ρ o).run P w = .ok (.value v) w' := by
  obtain ⟨dst, op, type, pos, after, guard⟩ := o
  cases op <;> simp only [rdSem] at hm
  case call c =>
    obtain ⟨callee, args, argTypes⟩ := c
    cases callee with
    | value f => simp at hm
    | invoke r m => simp at hm
    | builtin b =>
      cases b <;> simp only [Option.some.injEq, reduceCtorEq] at hm <;> subst hm <;> rw [args_eq] at h <;>
        simp only [execOp, resolve, invoke, builtin, Sem.run_bind, Sem.run_pure, Result.andThen_ok] <;> simp [h]
  all_goals first
    | (simp at hm; done)
    | (simp only [Option.some.injEq] at hm; subst hm; exact run_v h)
    | (simp only [Option.some.injEq] at hm; subst hm; simp only [prs_eq, args_eq, eqGuard_isC, bin] at h; exact run_v h)

/-- what a function that is called needs: a body -/
def enters (P : Program) (f : Nat) : Bool :=
  match P.funcs[f]? with
  | some fn => !(fn.name == "runtime.NumGoroutine") && fn.body.isSome
  | none => false
theorem ExtX.refl (X : Nat → Prop) (w : World) : ExtX X w w := ⟨rfl, rfl, rfl, Nat.le_refl _, fun _ _ _ => rfl⟩
theorem ExtX.trans {X : Nat → Prop} {a b c : World} (h : ExtX X a b) (k : ExtX X b c) : ExtX X a c :=
  ⟨k.os.trans h.os, k.tape.trans h.tape, k.output.trans h.output, Nat.le_trans h.size k.size, fun i hi hX => (k.block i (Nat.lt_of_lt_of_le hi h.size) hX).trans (h.block i hi hX)⟩
theorem Xt.rel_refl (x : Xt) (w : World) : x.rel w w := by
  unfold Xt.rel
  split
  · exact Ext.refl w
  · exact ExtX.refl _ w
theorem Xt.rel_trans (x : Xt) {a b c : World} (h : x.rel a b) (k : x.rel b c) : x.rel a c := by
  unfold Xt.rel at *
  split at h
  · rename_i hX; simp only [hX] at k ⊢; exact Ext.trans h k
  · rename_i X hX; simp only [hX] at k ⊢; exact ExtX.trans h k
theorem RDr_iff {P : Program} {x : Xt} {m : Sem Value} {w : World} {K : Value → Prop} : (match x.X with | none => RD P m w K | some X => RDX P X m w K) ↔ ∃ v, (∀ w', x.rel w w' → m.run P w' = .ok v w') ∧ K v := by
  unfold Xt.rel
  cases x.X with
  | none => exact ⟨fun ⟨v, h, k⟩ => ⟨v, h, k⟩, fun ⟨v, h, k⟩ => ⟨v, h, k⟩⟩
  | some X => exact ⟨fun ⟨v, h, k⟩ => ⟨v, h, k⟩, fun ⟨v, h, k⟩ => ⟨v, h, k⟩⟩
def okCall (ext : List Nat) (N : Nat) (o : Oper) : Bool :=
  match o.op with
  | .call { callee := .value (.func f), .. } => ext.elem f || Nat.blt f N
  | _ => true
theorem run_callFunc {P : Program} {f : Nat} (h : enters P f = true) (args : Array Value) (w : World) : (callFunc f args).run P w = .ok (.enter f args) w := by
  unfold enters at h
  cases hf : P.funcs[f]? with
  | none => simp [hf] at h
  | some fn =>
    simp only [hf, Bool.and_eq_true, Bool.not_eq_true'] at h
    have hn : ¬ fn.name = "runtime.NumGoroutine" := by simpa using h.1
    have hb : ¬ fn.body = none := by intro hb; simp [hb] at h
    unfold callFunc
    simp [program, Sem.run, hf, hn, hb]

section
variable {P : Program} {ext : Xt} {N : Nat} (hE : ∀ f, f < N → ext.l.elem f = false → enters P f = true)

theorem upon_calls {o : Oper} {a : Act} {K : Value → World → Prop} {Q : Exit → Act → World → Prop} {f : FuncId} {args : Array Value} {w : World}
    (h : Calls P f args w fun e w' => ∃ v, e = .returned v ∧ K v w') :
    o.upon P a (fun a' w' => ∃ v, a' = a.put o.dst v ∧ K v w') Q (.ok (.enter f args) w) := by
  rw [Oper.upon_enter]
  exact h.mono fun e w' ⟨v, he, hk⟩ => by subst he; exact ⟨v, rfl, hk⟩

theorem opn_upon {o : Oper} {a : Act} {K : Value → World → Prop} {Q : Exit → Act → World → Prop} {m : Sem Next} {w : World} (h : OPN P m w K) :
    o.upon P a (fun a' w' => ∃ v, a' = a.put o.dst v ∧ K v w') Q (m.run P w) := by
  cases h with
  | value v w' hr k => rw [hr]; exact ⟨v, rfl, k⟩
  | skip w' hr k => rw [hr]; exact ⟨undef, rfl, k⟩
  | enter f args w' hr k => rw [hr]; exact upon_calls k
  | row r args w' hr k => rw [hr, Oper.upon_row]; exact k.mono fun v w'' hk => ⟨v, rfl, hk⟩

include hE in
theorem opK_sound {o : Oper} {a : Act} {w : World} {K : Value → World → Prop} {Q : Exit → Act → World → Prop} (hc : okCall ext.l N o = true)
    (h : opK P ext o a.eval w K) : o.wp P a w (fun a' w' => ∃ v, a' = a.put o.dst v ∧ K v w') Q := by
  unfold Oper.wp
  obtain ⟨dst, op, type, pos, after, guard⟩ := o
  have rd : ∀ {m : Sem Value}, rdSem ⟨dst, op, type, pos, after, guard⟩ a.eval = some m → (match ext.X with | none => RD P m w (fun v => K v w) | some X => RDX P X m w (fun v => K v w)) →
      (Oper.mk dst op type pos after guard).upon P a (fun a' w' => ∃ v, a' = a.put dst v ∧ K v w') Q ((execOp a.eval ⟨dst, op, type, pos, after, guard⟩).run P w) := by
    intro m hm hr
    obtain ⟨v, hv, k⟩ := RDr_iff.1 hr
    rw [rdSem_exec hm (hv w (ext.rel_refl w))]
    exact ⟨v, rfl, k⟩
  have val : ∀ {m : Sem Value}, OP P m w K → (execOp a.eval ⟨dst, op, type, pos, after, guard⟩ = (do pure (Next.value (← m)) : Sem Next)) →
      (Oper.mk dst op type pos after guard).upon P a (fun a' w' => ∃ v, a' = a.put dst v ∧ K v w') Q ((execOp a.eval ⟨dst, op, type, pos, after, guard⟩).run P w) := by
    intro m ho he
    obtain ⟨v, w', hr, k⟩ := ho
    rw [he, run_v hr]
    exact ⟨v, rfl, k⟩
  have uni : ∀ {m : Sem Unit}, OPU P m w (K undef) → (execOp a.eval ⟨dst, op, type, pos, after, guard⟩ = (do m; pure Next.skip : Sem Next)) →
      (Oper.mk dst op type pos after guard).upon P a (fun a' w' => ∃ v, a' = a.put dst v ∧ K v w') Q ((execOp a.eval ⟨dst, op, type, pos, after, guard⟩).run P w) := by
    intro m ho he
    obtain ⟨w', hr, k⟩ := ho
    rw [he, run_u hr]
    exact ⟨undef, rfl, k⟩
  cases op
  case move x => exact ⟨_, rfl, h⟩
  case assign x => exact ⟨_, rfl, h⟩
  case pick c x y =>
    simp only [opK, BR_iff] at h
    obtain ⟨b, hb, h⟩ := h
    simp only [execOp, hb, asBool]
    cases b <;> exact ⟨_, rfl, h⟩
  case nilCheck x =>
    simp only [opK] at h
    obtain ⟨hn, k⟩ := h
    simp only [execOp]
    cases hx : a.eval x with
    | pointer p => cases p with
      | none => simp [hx, nilOk] at hn
      | some p => exact ⟨_, rfl, hx ▸ k⟩
    | iface t v => exact ⟨_, rfl, hx ▸ k⟩
    | func fn first captured => cases fn with
      | func f => exact ⟨_, rfl, hx ▸ k⟩
      | _ => simp [hx, nilOk] at hn
    | _ => simp [hx, nilOk] at hn
  case alloc e => exact val h rfl
  case box e x => exact val h rfl
  case buildSlice t n ps => exact val h (by simp only [execOp, prs_eq])
  case store t x y => exact uni h rfl
  case makeMap t r => exact val h rfl
  case makeSlice t l c => exact val h rfl
  case mapUpdate t m k x => exact uni h rfl
  case insert t m k x => exact uni h rfl
  case mapEntry t m k => exact val h rfl
  case entryStore t m k x => exact uni h rfl
  case range t x => exact val h rfl
  case next it b => exact val h rfl
  case entry it => exact val h rfl
  case call c =>
    obtain ⟨callee, args, argTypes⟩ := c
    cases callee with
    | value f =>
      cases f with
      | func f =>
        simp only [opK] at h
        have he : (execOp a.eval ⟨dst, .call ⟨.value (.func f), args, argTypes⟩, type, pos, after, guard⟩).run P w = (callFunc f (args.map a.eval)).run P w := by
          simp [execOp, resolve, Act.eval, Deferred.ofValue, invoke]
        rw [he]
        cases hx : ext.l.elem f with
        | true => simp only [hx, cond_true, args_eq] at h; exact opn_upon h
        | false =>
          simp only [hx, cond_false] at h
          obtain ⟨h⟩ := h
          simp only [okCall, hx, Bool.false_or] at hc
          have hlt : f < N := Nat.le_of_ble_eq_true hc
          rw [run_callFunc (hE f hlt hx)]
          rw [args_eq] at h
          exact upon_calls h
      | tmp t =>
        simp only [opK] at h
        have := opn_upon (o := ⟨dst, .call ⟨.value (.tmp t), args, argTypes⟩, type, pos, after, guard⟩) (a := a) (Q := Q) h
        simpa [execOp, resolve, callV, args_eq] using this
      | const v =>
        simp only [opK] at h
        have := opn_upon (o := ⟨dst, .call ⟨.value (.const v), args, argTypes⟩, type, pos, after, guard⟩) (a := a) (Q := Q) h
        simpa [execOp, resolve, callV, args_eq] using this
      | global g =>
        simp only [opK] at h
        have := opn_upon (o := ⟨dst, .call ⟨.value (.global g), args, argTypes⟩, type, pos, after, guard⟩) (a := a) (Q := Q) h
        simpa [execOp, resolve, callV, args_eq] using this
    | invoke r m =>
      simp only [opK] at h
      have := opn_upon (o := ⟨dst, .call ⟨.invoke r m, args, argTypes⟩, type, pos, after, guard⟩) (a := a) (Q := Q) h
      simpa [execOp, resolve, callM, args_eq] using this
    | builtin b =>
      cases b
      case append => exact val h (by simp only [execOp, resolve, invoke, builtin, args_eq, pure_bind])
      case copy => exact val h (by simp only [execOp, resolve, invoke, builtin, args_eq, pure_bind])
      case delete => exact val h (by simp only [execOp, resolve, invoke, builtin, args_eq, pure_bind])
      case clear => exact val h (by simp only [execOp, resolve, invoke, builtin, args_eq, pure_bind])
      case len => exact rd rfl h
      case cap => exact rd rfl h
      case min => exact rd rfl h
      case max => exact rd rfl h
      all_goals exact (show False from h).elim
  all_goals first | exact (show False from h).elim | exact rd rfl h
end
end Go.Sh
