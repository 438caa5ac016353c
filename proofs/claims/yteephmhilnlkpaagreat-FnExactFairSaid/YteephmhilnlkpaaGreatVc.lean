/-
  The soundness of the reading of XCore, second part: a region in the order of the text; a region whose order is drawn; a body; a call.
-/
import Derived.Test.YteephmhilnlkpaaGreatSound
namespace Go.Sh
set_option linter.unusedVariables false
set_option linter.unusedSimpArgs false
open Go.RowKit (Below)

theorem opn_mono {P : Program} {m : Sem Next} {w : World} {K K' : Value → World → Prop} (hk : ∀ v w', K v w' → K' v w') (h : OPN P m w K) : OPN P m w K' := by
  cases h with
  | value v w' hr k => exact .value v w' hr (hk _ _ k)
  | skip w' hr k => exact .skip w' hr (hk _ _ k)
  | enter f args w' hr k => exact .enter f args w' hr (k.mono fun e w'' ⟨v, he, h⟩ => ⟨v, he, hk _ _ h⟩)
  | row r args w' hr k => exact .row r args w' hr (k.mono fun v w'' h => hk _ _ h)
theorem OP.mono {P : Program} {m : Sem Value} {w : World} {K K' : Value → World → Prop} (h : OP P m w K) (hk : ∀ v w', K v w' → K' v w') : OP P m w K' := by
  obtain ⟨v, w', hr, k⟩ := h; exact ⟨v, w', hr, hk _ _ k⟩
theorem OPU.mono {P : Program} {m : Sem Unit} {w : World} {K K' : World → Prop} (h : OPU P m w K) (hk : ∀ w', K w' → K' w') : OPU P m w K' := by
  obtain ⟨w', hr, k⟩ := h; exact ⟨w', hr, hk _ k⟩
theorem RDr.mono {P : Program} {x : Xt} {m : Sem Value} {w : World} {K K' : Value → Prop} (h : match x.X with | none => RD P m w K | some X => RDX P X m w K) (hk : ∀ v, K v → K' v) : (match x.X with | none => RD P m w K' | some X => RDX P X m w K') := by
  obtain ⟨v, h1, h2⟩ := RDr_iff.1 h
  exact RDr_iff.2 ⟨v, h1, hk v h2⟩
theorem RD.mono {P : Program} {m : Sem Value} {w : World} {K K' : Value → Prop} (h : RD P m w K) (hk : ∀ v, K v → K' v) : RD P m w K' := by
  obtain ⟨v, hr, k⟩ := h; exact ⟨v, hr, hk _ k⟩
theorem CALL.mono {P : Program} {f : FuncId} {args : List Value} {w : World} {K K' : Value → World → Prop} (h : CALL P f args w K) (hk : ∀ v w', K v w' → K' v w') : CALL P f args w K' := by
  obtain ⟨h⟩ := h; exact ⟨h.mono fun e w' ⟨v, he, k⟩ => ⟨v, he, hk _ _ k⟩⟩
theorem NIL.mono {v : Value} {k k' : Prop} (h : NIL v k) (hk : k → k') : NIL v k' := by
  obtain ⟨a, b⟩ := h; exact ⟨a, hk b⟩
theorem BR.mono {v : Value} {a b a' b' : Prop} (h : BR v a b) (ha : a → a') (hb : b → b') : BR v a' b' := by
  rw [BR_iff] at *
  obtain ⟨t, ht, h⟩ := h
  refine ⟨t, ht, ?_⟩
  cases t <;> simp at h ⊢
  · exact hb h
  · exact ha h

theorem opK_mono {P : Program} {ext : Xt} {o : Oper} {ρ : Operand → Value} {w : World} {K K' : Value → World → Prop} (hk : ∀ v w', K v w' → K' v w')
    (h : opK P ext o ρ w K) : opK P ext o ρ w K' := by
  obtain ⟨dst, op, type, pos, after, guard⟩ := o
  cases op
  case call c =>
    obtain ⟨callee, args, argTypes⟩ := c
    cases callee with
    | value f =>
      cases f with
      | func f =>
        simp only [opK] at h ⊢
        cases hx : ext.l.elem f <;> simp only [hx, cond_true, cond_false] at h ⊢
        · exact CALL.mono h hk
        · exact opn_mono hk h
      | _ => exact opn_mono hk h
    | invoke r m => exact opn_mono hk h
    | builtin b =>
      cases b
      case append => exact OP.mono h hk
      case copy => exact OP.mono h hk
      case delete => exact OP.mono h hk
      case clear => exact OP.mono h hk
      case len => exact RDr.mono h fun v => hk v _
      case cap => exact RDr.mono h fun v => hk v _
      case min => exact RDr.mono h fun v => hk v _
      case max => exact RDr.mono h fun v => hk v _
      all_goals exact (show False from h).elim
  case move x => exact hk _ _ h
  case assign x => exact hk _ _ h
  case pick c x y => exact BR.mono h (hk _ _) (hk _ _)
  case nilCheck x => exact NIL.mono h (hk _ _)
  all_goals first
    | exact (show False from h).elim
    | exact OP.mono h hk
    | exact OPU.mono h fun w' => hk _ w'
    | exact RDr.mono h fun v => hk v _

theorem rdSem_congr {o : Oper} {ρ ρ' : Operand → Value} (h : ∀ x ∈ o.op.operands, ρ x = ρ' x) : rdSem o ρ = rdSem o ρ' := by
  obtain ⟨dst, op, type, pos, after, guard⟩ := o
  have ar : ∀ xs : Array Operand, (∀ x ∈ xs, ρ x = ρ' x) → xs.toList.map ρ = xs.toList.map ρ' := fun xs hx => List.map_congr_left fun x hm => hx x (by simpa using hm)
  cases op <;> simp only [Op.operands] at h <;> simp only [rdSem]
  case build t ps =>
    have : prs ρ ps.toList = prs ρ' ps.toList := by
      have : ∀ l : List (Nat × Operand), (∀ p ∈ l, ρ p.2 = ρ' p.2) → prs ρ l = prs ρ' l := by
        intro l
        induction l with
        | nil => intro _; rfl
        | cons p l ih => intro hl; obtain ⟨i, x⟩ := p; simp only [prs]; rw [ih fun p hp => hl p (by simp [hp]), show ρ x = ρ' x from hl (i, x) (by simp)]
      exact this _ fun p hp => h p.2 (by simp; exact ⟨p.1, by simpa using hp⟩)
    rw [this]
  case makeFunc fn first captured =>
    rw [ar first fun x hx => h x (by simp [hx]), ar captured fun x hx => h x (by simp [hx])]
  case call c =>
    obtain ⟨callee, args, argTypes⟩ := c
    cases callee with
    | value f => rfl
    | invoke r m => rfl
    | builtin b => cases b <;> first | rfl | (simp only; rw [ar args fun x hx => h x (by simp [Call.operands, hx])])
  case slice t x lo hi mx => cases lo <;> cases hi <;> cases mx <;> simp_all
  all_goals first | rfl | (simp_all; done)

theorem opK_congr {P : Program} {ext : Xt} {o : Oper} {ρ ρ' : Operand → Value} {w : World} {K : Value → World → Prop} (h : ∀ x ∈ o.op.operands, ρ x = ρ' x)
    (hk : opK P ext o ρ w K) : opK P ext o ρ' w K := by
  have hr := rdSem_congr h
  obtain ⟨dst, op, type, pos, after, guard⟩ := o
  have ar : ∀ xs : Array Operand, (∀ x ∈ xs, ρ x = ρ' x) → xs.toList.map ρ = xs.toList.map ρ' := fun xs hx => List.map_congr_left fun x hm => hx x (by simpa using hm)
  have e1 : ∀ x, ρ x = ρ' x → ρ' x = ρ x := fun _ => Eq.symm
  cases op <;> simp only [Op.operands] at h
  case call c =>
    obtain ⟨callee, args, argTypes⟩ := c
    have ha := ar args fun x hx => h x (by simp [Call.operands, hx])
    cases callee with
    | value f =>
      have hf : ρ f = ρ' f := h f (by simp [Call.operands])
      cases f with
      | func f => simp only [opK, ha] at hk ⊢; exact hk
      | _ => simp only [opK, ha, hf] at hk ⊢; exact hk
    | invoke r m =>
      have hf : ρ r = ρ' r := h r (by simp [Call.operands])
      simp only [opK, ha, hf] at hk ⊢; exact hk
    | builtin b =>
      cases b <;> simp only [opK, ha, rdSem] at hk ⊢ <;> exact hk
  case buildSlice t n ps =>
    have : prs ρ ps.toList = prs ρ' ps.toList := by
      have : ∀ l : List (Nat × Operand), (∀ p ∈ l, ρ p.2 = ρ' p.2) → prs ρ l = prs ρ' l := by
        intro l
        induction l with
        | nil => intro _; rfl
        | cons p l ih => intro hl; obtain ⟨i, x⟩ := p; simp only [prs]; rw [ih fun p hp => hl p (by simp [hp]), show ρ x = ρ' x from hl (i, x) (by simp)]
      exact this _ fun p hp => h p.2 (by simp; exact ⟨p.1, by simpa using hp⟩)
    simp only [opK, this] at hk ⊢; exact hk
  case makeMap t r =>
    cases r with
    | none => exact hk
    | some r => simp only [opK, Option.map_some] at hk ⊢; rwa [← h r (by simp)]
  case move x => simp only [opK] at hk ⊢; rwa [← h x (by simp)]
  case assign x => simp only [opK] at hk ⊢; rwa [← h x (by simp)]
  case pick c x y => simp only [opK] at hk ⊢; rwa [← h x (by simp), ← h y (by simp), ← h c (by simp)]
  case nilCheck x => simp only [opK] at hk ⊢; rwa [← h x (by simp)]
  case alloc e => exact hk
  case box e x => simp only [opK] at hk ⊢; rwa [← h x (by simp)]
  case store t x y => simp only [opK] at hk ⊢; rwa [← h x (by simp), ← h y (by simp)]
  case makeSlice t x y => simp only [opK] at hk ⊢; rwa [← h x (by simp), ← h y (by simp)]
  case mapUpdate t x y z => simp only [opK] at hk ⊢; rwa [← h x (by simp), ← h y (by simp), ← h z (by simp)]
  case insert t x y z => simp only [opK] at hk ⊢; rwa [← h x (by simp), ← h y (by simp), ← h z (by simp)]
  case mapEntry t x y => simp only [opK] at hk ⊢; rwa [← h x (by simp), ← h y (by simp)]
  case entryStore t x y z => simp only [opK] at hk ⊢; rwa [← h x (by simp), ← h y (by simp), ← h z (by simp)]
  case range t x => simp only [opK] at hk ⊢; rwa [← h x (by simp)]
  case next x b => simp only [opK] at hk ⊢; rwa [← h x (by simp)]
  case entry x => simp only [opK] at hk ⊢; rwa [← h x (by simp)]
  all_goals first
    | exact (show False from hk).elim
    | (simp only [opK] at hk ⊢; rw [← hr]; exact hk)

/-- the operations that only read -/
def isRd (o : Oper) : Bool :=
  match o.op with
  | .move _ => true
  | .assign _ => true
  | .pick .. => true
  | .nilCheck _ => true
  | _ => (rdSem o fun _ => undef).isSome
def Rv (P : Program) (x : Xt) (o : Oper) (ρ : Operand → Value) (w : World) (v : Value) : Prop :=
  match o.op with
  | .move x => v = ρ x
  | .assign x => v = ρ x
  | .pick c a b => ∃ t, ρ c = .bool t ∧ v = if t then ρ a else ρ b
  | .nilCheck x => nilOk (ρ x) = true ∧ v = ρ x
  | _ => ∃ m, rdSem o ρ = some m ∧ ∀ w', x.rel w w' → m.run P w' = .ok v w'
theorem opK_rd {P : Program} {ext : Xt} {o : Oper} {ρ : Operand → Value} {w : World} {K : Value → World → Prop} (hr : isRd o = true) :
    opK P ext o ρ w K ↔ ∃ v, Rv P ext o ρ w v ∧ K v w := by
  obtain ⟨dst, op, type, pos, after, guard⟩ := o
  have rd : ∀ m, (match ext.X with | none => RD P m w (fun v => K v w) | some X => RDX P X m w (fun v => K v w)) ↔ ∃ v, (∃ m', some m = some m' ∧ ∀ w', ext.rel w w' → m'.run P w' = .ok v w') ∧ K v w := fun m =>
    RDr_iff.trans ⟨fun ⟨v, h, k⟩ => ⟨v, ⟨m, rfl, h⟩, k⟩, fun ⟨v, ⟨m', e, h⟩, k⟩ => by cases e; exact ⟨v, h, k⟩⟩
  cases op
  case move x => simp [opK, Rv]
  case assign x => simp [opK, Rv]
  case pick c x y =>
    simp only [opK, Rv, BR_iff]
    constructor
    · rintro ⟨b, hb, h⟩; exact ⟨_, ⟨b, hb, rfl⟩, by cases b <;> exact h⟩
    · rintro ⟨v, ⟨b, hb, rfl⟩, h⟩; exact ⟨b, hb, by cases b <;> exact h⟩
  case nilCheck x =>
    simp only [opK, Rv]
    exact ⟨fun ⟨a, b⟩ => ⟨_, ⟨a, rfl⟩, b⟩, fun ⟨v, ⟨a, e⟩, b⟩ => by subst e; exact ⟨a, b⟩⟩
  case call c =>
    obtain ⟨callee, args, argTypes⟩ := c
    cases callee with
    | value f => simp [isRd, rdSem] at hr
    | invoke r m => simp [isRd, rdSem] at hr
    | builtin b => cases b <;> first | exact rd _ | (simp [isRd, rdSem] at hr)
  all_goals first
    | exact rd _
    | (simp [isRd, rdSem] at hr)
theorem Rv_ext {P : Program} {x : Xt} {o : Oper} {ρ : Operand → Value} {w w' : World} {v : Value} (h : Rv P x o ρ w v) (hx : x.rel w w') : Rv P x o ρ w' v := by
  unfold Rv at *
  split at h <;> try exact h
  · obtain ⟨m, hm, h⟩ := h
    exact ⟨m, hm, fun w'' hx' => h w'' (x.rel_trans hx hx')⟩
theorem Rv_congr {P : Program} {xt : Xt} {o : Oper} {ρ ρ' : Operand → Value} {w : World} {v : Value} (h : ∀ x ∈ o.op.operands, ρ x = ρ' x) (hr : isRd o = true) (hv : Rv P xt o ρ w v) : Rv P xt o ρ' w v := by
  have h1 := (opK_rd (P := P) (ext := xt) (K := fun v' w' => v' = v ∧ w' = w) hr).2 ⟨v, hv, rfl, rfl⟩
  obtain ⟨v', hv', rfl, _⟩ := (opK_rd hr).1 (opK_congr h h1)
  exact hv'

/-- reads that look at no memory -/
def isPure (o : Oper) : Bool :=
  match o.op with
  | .move _ => true
  | .assign _ => true
  | .pick .. => true
  | .nilCheck _ => true
  | .extract .. => true
  | _ => false
theorem isPure_rd {o : Oper} (h : isPure o = true) : isRd o = true := by
  obtain ⟨dst, op, type, pos, after, guard⟩ := o
  cases op <;> first | rfl | (simp [isPure] at h)
theorem Rv_pure {P : Program} {x : Xt} {o : Oper} {ρ : Operand → Value} {w w' : World} {v : Value} (hp : isPure o = true) (h : Rv P x o ρ w v) : Rv P x o ρ w' v := by
  obtain ⟨dst, op, type, pos, after, guard⟩ := o
  cases op <;> first | exact h | (simp [isPure] at hp; done) | skip
  case extract t i =>
    obtain ⟨m, hm, h⟩ := h
    simp only [rdSem, Option.some.injEq] at hm
    subst hm
    refine ⟨_, rfl, fun w'' _ => ?_⟩
    have h1 := h w (x.rel_refl w)
    revert h1
    cases ρ t with
    | tuple vs =>
      simp only [Instr.extract]
      cases vs[i]? with
      | none => intro h1; simp at h1
      | some u => intro h1; simp at h1 ⊢; exact h1
    | _ => intro h1; simp [Instr.extract] at h1

/-- whether an operation's guard wants it -/
def gOk (ol : List Oper) (o : Oper) (s : Env) : Option Bool :=
  match o.guard with
  | none => some true
  | some (j, want) =>
    match (nth ol j).bind (·.dst) with
    | none => none
    | some d => match s d with
      | .bool b => some (b == want)
      | .tuple a => bif Nat.beq a.size 0 then (match (nth ol j).bind (·.guard) with | none => none | some _ => some false) else none
      | _ => none
theorem GBR_iff (v : Value) (kt kf ks : Prop) : GBR v kt kf ks ↔ (∃ b, v = .bool b ∧ (if b then kt else kf)) ∨ (v = undef ∧ ks) := by
  cases v with
  | bool b => cases b <;> simp [GBR, undef]
  | tuple a =>
    simp only [GBR, undef]
    cases h : Nat.beq a.size 0 with
    | true =>
      have : a = #[] := Array.size_eq_zero_iff.1 (Nat.eq_of_beq_eq_true h)
      subst this; simp
    | false =>
      have : a ≠ #[] := fun e => by subst e; cases h
      simp [this]
  | _ => simp [GBR, undef]
theorem stepK_iff {P : Program} {ext : Xt} {ol : List Oper} {fl i : Nat} {s : Env} {w : World} {K : Env → World → Prop} {o : Oper} (ho : nth ol i = some o) :
    stepK P ext ol fl i s w K ↔ ∃ b, gOk ol o s = some b ∧ (if b then opF P ext o (inMask fl i) s w K else K (put s o.dst undef) w) := by
  unfold stepK gOk
  simp only [ho]
  cases hg : o.guard with
  | none => simp
  | some g =>
    obtain ⟨j, want⟩ := g
    simp only
    cases hd : (nth ol j).bind (·.dst) with
    | none => simp
    | some d =>
      simp only
      cases hgj : (nth ol j).bind (·.guard) with
      | none =>
        simp only [BR_iff]
        constructor
        · rintro ⟨b, hb, h⟩
          have hu := upd_self hb
          refine ⟨b == want, by simp [hb], ?_⟩
          cases b <;> cases want <;> simp only [cond_true, cond_false, if_true, Bool.false_eq_true, if_false, hu] at h ⊢ <;> simpa using h
        · rintro ⟨c, hc, h⟩
          cases hv : s d with
          | bool b =>
            rw [hv] at hc
            simp only [Option.some.injEq] at hc
            subst hc
            have hu := upd_self hv
            refine ⟨b, rfl, ?_⟩
            cases b <;> cases want <;> simp only [cond_true, cond_false, if_true, Bool.false_eq_true, if_false, hu] <;> simpa using h
          | tuple a => rw [hv] at hc; simp only at hc; cases h0 : Nat.beq a.size 0 <;> rw [h0] at hc <;> simp at hc
          | _ => rw [hv] at hc; simp at hc
      | some g' =>
        simp only [GBR_iff]
        constructor
        · rintro (⟨b, hb, h⟩ | ⟨hb, h⟩)
          · have hu := upd_self hb
            refine ⟨b == want, by simp [hb], ?_⟩
            cases b <;> cases want <;> simp only [cond_true, cond_false, if_true, Bool.false_eq_true, if_false, hu] at h ⊢ <;> simpa using h
          · have hu := upd_self hb
            rw [hu] at h
            exact ⟨false, by rw [hb]; rfl, by simpa using h⟩
        · rintro ⟨c, hc, h⟩
          cases hv : s d with
          | bool b =>
            rw [hv] at hc
            simp only [Option.some.injEq] at hc
            subst hc
            have hu := upd_self hv
            refine .inl ⟨b, rfl, ?_⟩
            cases b <;> cases want <;> simp only [cond_true, cond_false, if_true, Bool.false_eq_true, if_false, hu] <;> simpa using h
          | tuple a =>
            rw [hv] at hc
            simp only at hc
            cases h0 : Nat.beq a.size 0 with
            | false => rw [h0] at hc; simp at hc
            | true =>
              rw [h0] at hc
              simp only [cond_true, Option.some.injEq] at hc
              subst hc
              have ha : a = #[] := Array.size_eq_zero_iff.1 (Nat.eq_of_beq_eq_true h0)
              subst ha
              have hu : upd s d undef = s := upd_self hv
              refine .inr ⟨rfl, ?_⟩
              rw [hu]
              simpa using h
          | _ => rw [hv] at hc; simp at hc
theorem opF_mono {P : Program} {ext : Xt} {o : Oper} {flag : Bool} {s : Env} {w : World} {K K' : Env → World → Prop} (hk : ∀ s w, K s w → K' s w)
    (h : opF P ext o flag s w K) : opF P ext o flag s w K' := by
  refine opK_mono (fun v w' hh => ?_) h
  cases flag
  · exact hk _ _ hh
  · exact ⟨hh.1, hk _ _ hh.2⟩
theorem stepK_mono {P : Program} {ext : Xt} {ol : List Oper} {fl i : Nat} {s : Env} {w : World} {K K' : Env → World → Prop} (hk : ∀ s w, K s w → K' s w)
    (h : stepK P ext ol fl i s w K) : stepK P ext ol fl i s w K' := by
  cases ho : nth ol i with
  | none => simp [stepK, ho] at h
  | some o =>
    rw [stepK_iff ho] at h ⊢
    obtain ⟨b, hb, h⟩ := h
    refine ⟨b, hb, ?_⟩
    cases b
    · exact hk _ _ h
    · exact opF_mono hk h

theorem gOk_put {ops : Array Oper} {o : Oper} {s : Env} {x : Option Nat} {v : Value} (h : ∀ d, x = some d → d ∉ o.looksAt ops) : gOk ops.toList o (put s x v) = gOk ops.toList o s := by
  unfold gOk
  cases hg : o.guard with
  | none => rfl
  | some g =>
    obtain ⟨j, want⟩ := g
    simp only
    cases hd : (nth ops.toList j).bind (·.dst) with
    | none => rfl
    | some t =>
      have : put s x v t = s t := put_at fun d hx e => h d hx (by subst e; rw [nth_arr] at hd; simp [Oper.looksAt, hg, hd])
      simp only [this]
theorem ev_put {ops : Array Oper} {o : Oper} {s : Env} {x : Option Nat} {v : Value} (h : ∀ d, x = some d → d ∉ o.looksAt ops) : ∀ y ∈ o.op.operands, ev (put s x v) y = ev s y := by
  intro y hy
  cases y with
  | tmp t =>
    show put s x v t = s t
    exact put_at fun d hx e => h d hx (by subst e; exact List.mem_append_left _ (List.mem_filterMap.2 ⟨.tmp t, by simpa using hy, rfl⟩))
  | _ => rfl

/-- a reading operation may be carried out behind the next one -/
theorem swap {P : Program} {ext : Xt} {ops : Array Oper} {fl x y : Nat} {ox oy : Oper} {s : Env} {w : World} {K : Env → World → Prop}
    (hx : nth ops.toList x = some ox) (hy : nth ops.toList y = some oy) (hr : isRd ox = true) (hfx : inMask fl x = false) (hap : ox.apart ops oy = true) (hf : isRd oy = true ∨ inMask fl y = true ∨ isPure ox = true)
    (h : stepK P ext ops.toList fl x s w fun s w => stepK P ext ops.toList fl y s w K) :
    stepK P ext ops.toList fl y s w fun s w => stepK P ext ops.toList fl x s w K := by
  obtain ⟨h1, h2, h3⟩ := Oper.apart_spec hap
  rw [stepK_iff hx] at h
  obtain ⟨bx, hbx, h⟩ := h
  -- what the reading operation yields, here and later
  have key : ∃ v, (∀ s2 w2, (ext.rel w w2 ∨ isPure ox = true) → (gOk ops.toList ox s2 = gOk ops.toList ox s) → (∀ z ∈ ox.op.operands, ev s2 z = ev s z) → K (put s2 ox.dst v) w2 → stepK P ext ops.toList fl x s2 w2 K) ∧
      stepK P ext ops.toList fl y (put s ox.dst v) w K := by
    cases bx with
    | false =>
      refine ⟨undef, fun s2 w2 _ hg _ hk => ?_, h⟩
      rw [stepK_iff hx]
      exact ⟨false, by rw [hg, hbx], hk⟩
    | true =>
      simp only [if_true] at h
      obtain ⟨v, hv, hk⟩ := (opK_rd hr).1 h
      rw [hfx] at hk
      refine ⟨v, fun s2 w2 hxt hg he hk2 => ?_, hk⟩
      rw [stepK_iff hx]
      refine ⟨true, by rw [hg, hbx], ?_⟩
      rw [hfx]
      simp only [if_true]
      unfold opF
      have hvc := Rv_congr (fun z hz => (he z hz).symm) hr hv
      rcases hxt with hxt | hxt
      · exact (opK_rd hr).2 ⟨v, Rv_ext hvc hxt, hk2⟩
      · exact (opK_rd hr).2 ⟨v, Rv_pure hxt hvc, hk2⟩
  obtain ⟨v, hback, hyk⟩ := key
  rw [stepK_iff hy] at hyk ⊢
  obtain ⟨b, hb, hyk⟩ := hyk
  rw [gOk_put (fun d hd => h1 d hd)] at hb
  refine ⟨b, hb, ?_⟩
  have fin : ∀ u w2, (ext.rel w w2 ∨ isPure ox = true) → K (put (put s ox.dst v) oy.dst u) w2 → stepK P ext ops.toList fl x (put s oy.dst u) w2 K := by
    intro u w2 hxt hk
    refine hback _ _ hxt (gOk_put fun d hd => h3 d hd) (ev_put fun d hd => h3 d hd) ?_
    rw [← put_comm s v u h2]; exact hk
  cases b with
  | false => exact fin _ _ (.inl (ext.rel_refl w)) hyk
  | true =>
    simp only [if_true] at hyk ⊢
    unfold opF at hyk ⊢
    have hyk := opK_congr (ρ' := ev s) (ev_put fun d hd => h1 d hd) hyk
    rcases hf with hf | hf | hf
    · obtain ⟨u, hu, hk⟩ := (opK_rd hf).1 hyk
      refine (opK_rd hf).2 ⟨u, hu, ?_⟩
      cases hm : inMask fl y <;> rw [hm] at hk
      · exact fin _ _ (.inl (ext.rel_refl w)) hk
      · exact ⟨hk.1, fin _ _ (.inl hk.1) hk.2⟩
    · refine opK_mono (fun u w2 hk => ?_) hyk
      rw [hf] at hk ⊢
      exact ⟨hk.1, fin _ _ (.inl hk.1) hk.2⟩
    · refine opK_mono (fun u w2 hk => ?_) hyk
      cases hm : inMask fl y <;> rw [hm] at hk
      · exact fin _ _ (.inr hf) hk
      · exact ⟨hk.1, fin _ _ (.inr hf) hk.2⟩
theorem vcOps_move {P : Program} {ext : Xt} {ops : Array Oper} {fl y : Nat} {oy : Oper} {K : Env → World → Prop} (hy : nth ops.toList y = some oy) (c2 : List Nat) :
    ∀ (c1 : List Nat) (s : Env) (w : World), (∀ x ∈ c1, ∃ ox, nth ops.toList x = some ox ∧ isRd ox = true ∧ inMask fl x = false ∧ ox.apart ops oy = true ∧ (isRd oy = true ∨ inMask fl y = true ∨ isPure ox = true)) →
      vcOps P ext ops.toList fl K (c1 ++ y :: c2) s w → vcOps P ext ops.toList fl K (y :: (c1 ++ c2)) s w := by
  intro c1
  induction c1 with
  | nil => intro s w _ h; exact h
  | cons x c1 ih =>
    intro s w hc h
    obtain ⟨ox, hx, hr, hfx, hap, hf⟩ := hc x (by simp)
    refine swap hx hy hr hfx hap hf ?_
    exact stepK_mono (fun s w hk => ih s w (fun z hz => hc z (by simp [hz])) hk) h
/-- what is kept over a piece of a body: the size, the deferred calls, each slot that is not written -/
structure Kept (n : Nat) (ds : List Nat) (a a' : Act) : Prop where
  size : a'.tmps.size = n
  defers : a'.defers = a.defers
  env : ∀ t, t ∉ ds → envOf a' t = envOf a t
theorem Kept.refl {n : Nat} {a : Act} (ds : List Nat) (h : a.tmps.size = n) : Kept n ds a a := ⟨h, rfl, fun _ _ => rfl⟩
theorem Kept.trans {n : Nat} {d1 d2 ds : List Nat} {a b c : Act} (h : Kept n d1 a b) (k : Kept n d2 b c) (h1 : ∀ t, t ∈ d1 → t ∈ ds) (h2 : ∀ t, t ∈ d2 → t ∈ ds) : Kept n ds a c :=
  ⟨k.size, k.defers.trans h.defers, fun t ht => (k.env t fun e => ht (h2 t e)).trans (h.env t fun e => ht (h1 t e))⟩
def dsts (ol : List Oper) : List Nat := ol.filterMap (·.dst)
def okOps (ext : List Nat) (N n : Nat) (ol : List Oper) : Bool := ol.all fun o => okCall ext N o && (match o.dst with | some d => Nat.blt d n | none => true)
theorem okOps_at {ext : Xt} {N n : Nat} {ol : List Oper} (h : okOps ext.l N n ol = true) {i : Nat} {o : Oper} (ho : nth ol i = some o) :
    okCall ext.l N o = true ∧ (∀ d, o.dst = some d → d < n) ∧ (∀ d, o.dst = some d → d ∈ dsts ol) := by
  rw [nth_eq] at ho
  have hm := List.mem_of_getElem? ho
  have h1 := List.all_eq_true.1 h o hm
  simp only [Bool.and_eq_true] at h1
  refine ⟨h1.1, fun d hd => ?_, fun d hd => List.mem_filterMap.2 ⟨o, hm, hd⟩⟩
  have h2 := h1.2
  rw [hd] at h2
  exact Nat.le_of_ble_eq_true h2
theorem wanted_gOk {ops : Array Oper} {o : Oper} {a : Act} {b : Bool} (h : gOk ops.toList o (envOf a) = some b) : Region.wanted o (yielded ops a.tmps) = b := by
  unfold gOk at h
  unfold Region.wanted
  cases hg : o.guard with
  | none => rw [hg] at h; simpa using h
  | some g =>
    obtain ⟨j, want⟩ := g
    rw [hg] at h
    simp only at h ⊢
    rw [nth_arr] at h
    unfold yielded
    cases hd : (ops[j]?).bind (·.dst) with
    | none => rw [hd] at h; simp at h
    | some d =>
      rw [hd] at h
      simp only [Option.bind_some] at h ⊢
      cases hv : a.tmps[d]? with
      | none =>
        have : envOf a d = undef := by simp [envOf, hv]
        rw [this] at h
        simp only [undef] at h
        cases hgj : (ops[j]?).bind (·.guard) with
        | none => rw [hgj] at h; simp at h
        | some g' =>
          rw [hgj] at h
          simp at h
          rw [h]
          rfl
      | some v =>
        have : envOf a d = v := by simp [envOf, hv]
        rw [this] at h
        cases v with
        | bool c => simp only [Option.some.injEq] at h; subst h; cases c <;> cases want <;> rfl
        | tuple a =>
          simp only at h
          cases h0 : Nat.beq a.size 0 with
          | false => rw [h0] at h; simp at h
          | true =>
            rw [h0] at h
            simp only [cond_true] at h
            cases hgj : (ops[j]?).bind (·.guard) with
            | none => rw [hgj] at h; simp at h
            | some g' =>
              rw [hgj] at h
              simp only [Option.some.injEq] at h
              subst h
              rfl
        | _ => simp at h

section
variable {P : Program} {ext : Xt} {N n : Nat} (hE : ∀ f, f < N → ext.l.elem f = false → enters P f = true)
include hE
theorem stepK_sound {ops : Array Oper} {fl i : Nat} {a : Act} {w : World} {K : Env → World → Prop} {M : Act → World → Prop} {Q : Exit → Act → World → Prop}
    (hok : okOps ext.l N n ops.toList = true) (hn : a.tmps.size = n) (h : stepK P ext ops.toList fl i (envOf a) w K)
    (hM : ∀ a' w', Kept n (dsts ops.toList) a a' → K (envOf a') w' → M a' w') : wpOp P ops Q i M a w := by
  cases ho : nth ops.toList i with
  | none => simp [stepK, ho] at h
  | some o =>
    obtain ⟨hc, hd, hm⟩ := okOps_at hok ho
    have hput : ∀ v, envOf (a.put o.dst v) = put (envOf a) o.dst v := fun v => envOf_put fun t ht => by rw [hn]; exact hd t ht
    have hkept : ∀ v, Kept n (dsts ops.toList) a (a.put o.dst v) := fun v =>
      ⟨by rw [put_size, hn], put_def a _ v, fun t ht => by rw [hput]; exact put_at fun d hd e => ht (e ▸ hm d hd)⟩
    rw [stepK_iff ho] at h
    obtain ⟨b, hb, h⟩ := h
    unfold wpOp
    rw [← nth_arr, ho]
    simp only [wanted_gOk hb]
    cases b with
    | false =>
      simp only [Bool.false_eq_true, if_false] at h ⊢
      exact hM _ _ (hkept _) (by rw [hput]; exact h)
    | true =>
      simp only [if_true] at h ⊢
      refine .inl ?_
      unfold opF at h
      rw [ev_envOf] at h
      refine Oper.wp_mono (fun a' w' => ?_) (opK_sound hE hc h)
      rintro ⟨v, rfl, hk⟩
      refine hM _ _ (hkept v) ?_
      rw [hput]
      cases hf : inMask fl i <;> rw [hf] at hk
      · exact hk
      · exact hk.2
theorem vcOps_sound {ops : Array Oper} {fl : Nat} {K : Env → World → Prop} {Q : Exit → Act → World → Prop} (hok : okOps ext.l N n ops.toList = true) :
    ∀ (l : List Nat) (a : Act) (w : World), a.tmps.size = n → vcOps P ext ops.toList fl K l (envOf a) w →
      (∀ a' w', Kept n (dsts ops.toList) a a' → K (envOf a') w' → Q .normal a' w') → wpOps P ops Q l a w := by
  intro l
  induction l with
  | nil => intro a w hn h hq; exact hq a w (.refl _ hn) h
  | cons i l ih =>
    intro a w hn h hq
    rw [wpOps_cons]
    exact stepK_sound hE hok hn h fun a' w' hk hh => ih a' w' hk.size hh fun a'' w'' hk' hh' => hq a'' w'' (hk.trans hk' (fun _ h => h) (fun _ h => h)) hh'
end

/-- the operations that must have been carried out before each, as bits -/
def ancGo : List Oper → List Nat → List Nat
  | [], acc => acc
  | o :: r, acc => ancGo r (acc ++ [o.after.toList.foldl (fun m e => bif Region.binds .any e then Nat.lor (Nat.lor m (Nat.shiftLeft 1 e.on)) (match nth acc e.on with | some k => k | none => 0) else m) 0])
def ancs (ol : List Oper) : List Nat := ancGo ol []
def ancAt (A : List Nat) (j : Nat) : Nat := match nth A j with | some k => k | none => 0

theorem ancFold {A : List Nat} {l : List Edge} {m i : Nat}
    (h : Nat.testBit (l.foldl (fun m e => bif Region.binds .any e then Nat.lor (Nat.lor m (Nat.shiftLeft 1 e.on)) (ancAt A e.on) else m) m) i = true) :
    Nat.testBit m i = true ∨ ∃ e ∈ l, Region.binds .any e = true ∧ (e.on = i ∨ Nat.testBit (ancAt A e.on) i = true) := by
  induction l generalizing m with
  | nil => exact .inl h
  | cons e l ih =>
    rcases ih h with h | ⟨e', he, hb, hh⟩
    · dsimp only at h
      cases hb : Region.binds .any e with
      | false => rw [hb] at h; exact .inl h
      | true =>
        rw [hb] at h
        simp only [cond_true] at h
        change Nat.testBit ((m ||| (1 <<< e.on)) ||| ancAt A e.on) i = true at h
        simp only [Nat.testBit_or, Bool.or_eq_true] at h
        rcases h with (h | h) | h
        · exact .inl h
        · refine .inr ⟨e, by simp, hb, .inl ?_⟩
          rw [Nat.one_shiftLeft, Nat.testBit_two_pow] at h
          simpa using h
        · exact .inr ⟨e, by simp, hb, .inr h⟩
    · exact .inr ⟨e', by simp [he], hb, hh⟩
theorem nth_append_left {α : Type} {l r : List α} {j : Nat} (h : j < l.length) : nth (l ++ r) j = nth l j := by
  rw [nth_eq, nth_eq, List.getElem?_append_left h]
/-- each bit of an operation comes of one of its edges, or of what was ahead of that -/
theorem ancGo_spec : ∀ (ol : List Oper) (pre : List Oper) (acc : List Nat), acc.length = pre.length →
    (∀ j o, nth pre j = some o → ∀ i, Nat.testBit (ancAt acc j) i = true → ∃ e ∈ o.after, Region.binds .any e = true ∧ (e.on = i ∨ (e.on < j ∧ Nat.testBit (ancAt acc e.on) i = true))) →
    (ancGo ol acc).length = (pre ++ ol).length ∧
    ∀ j o, nth (pre ++ ol) j = some o → ∀ i, Nat.testBit (ancAt (ancGo ol acc) j) i = true → ∃ e ∈ o.after, Region.binds .any e = true ∧ (e.on = i ∨ (e.on < j ∧ Nat.testBit (ancAt (ancGo ol acc) e.on) i = true)) := by
  intro ol
  induction ol with
  | nil => intro pre acc hl h; simpa [ancGo] using ⟨hl, h⟩
  | cons o r ih =>
    intro pre acc hl h
    have step := ih (pre ++ [o]) (acc ++ [o.after.toList.foldl (fun m e => bif Region.binds .any e then Nat.lor (Nat.lor m (Nat.shiftLeft 1 e.on)) (match nth acc e.on with | some k => k | none => 0) else m) 0]) (by simp [hl]) ?_
    · simpa [ancGo] using step
    · intro j p hp i hi
      rcases Nat.lt_trichotomy j pre.length with hj | hj | hj
      · rw [nth_append_left hj] at hp
        have hja : j < acc.length := by omega
        have hi' : Nat.testBit (ancAt acc j) i = true := by simpa only [ancAt, nth_append_left hja] using hi
        obtain ⟨e, he, hb, hh⟩ := h j p hp i hi'
        refine ⟨e, he, hb, hh.imp id fun ⟨h1, h2⟩ => ⟨h1, ?_⟩⟩
        simpa only [ancAt, nth_append_left (show e.on < acc.length by omega)] using h2
      · subst hj
        have hp' : p = o := by rw [nth_eq] at hp; simpa using hp.symm
        subst hp'
        have : ancAt (acc ++ [p.after.toList.foldl (fun m e => bif Region.binds .any e then Nat.lor (Nat.lor m (Nat.shiftLeft 1 e.on)) (match nth acc e.on with | some k => k | none => 0) else m) 0]) pre.length = p.after.toList.foldl (fun m e => bif Region.binds .any e then Nat.lor (Nat.lor m (Nat.shiftLeft 1 e.on)) (ancAt acc e.on) else m) 0 := by
          unfold ancAt
          rw [nth_eq, ← hl]
          simp
        rw [this] at hi
        rcases ancFold hi with h0 | ⟨e, he, hb, hh⟩
        · simp at h0
        · refine ⟨e, by simpa using he, hb, hh.imp id fun h2 => ?_⟩
          have hlt : e.on < acc.length := by
            rcases Nat.lt_or_ge e.on acc.length with h' | h'
            · exact h'
            · have : ancAt acc e.on = 0 := by unfold ancAt; rw [nth_eq, List.getElem?_eq_none h']
              rw [this] at h2; simp at h2
          exact ⟨by omega, by simpa only [ancAt, nth_append_left hlt] using h2⟩
      · have : nth (pre ++ [o]) j = none := by rw [nth_eq]; simp; omega
        rw [this] at hp; cases hp
theorem ancs_spec (ol : List Oper) (j : Nat) (o : Oper) (ho : nth ol j = some o) (i : Nat) (h : Nat.testBit (ancAt (ancs ol) j) i = true) :
    ∃ e ∈ o.after, Region.binds .any e = true ∧ (e.on = i ∨ (e.on < j ∧ Nat.testBit (ancAt (ancs ol) e.on) i = true)) :=
  (ancGo_spec ol [] [] rfl (by intro j o h; simp [nth] at h)).2 j o ho i h
end Go.Sh
