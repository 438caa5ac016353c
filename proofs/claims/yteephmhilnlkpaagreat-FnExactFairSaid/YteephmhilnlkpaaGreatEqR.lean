/-
  Two races held against each other.
-/
import Derived.Test.YteephmhilnlkpaaGreatSmall
import Derived.Laws.StructEq
namespace Go.Proofs.YteephmhilnlkpaaGreat
open Go Go.Sh Go.Proofs
set_option linter.unusedVariables false
set_option linter.unusedSimpArgs false
set_option maxRecDepth 20000 in
theorem rd_eqlDRace {w w0 w1 : World} {K : Value → Prop} {x y : Operand} {v1 v2 : Value} {a b : DRace} (h1 : Is w0 v1 a) (h2 : Is w1 v2 b) (k : K (.bool (decide (a = b)))) : RD Tryz.prog (bin .eql 117 x y v1 v2) w K := by
  obtain ⟨rfl, _⟩ := is_race.1 h1
  obtain ⟨rfl, _⟩ := is_race.1 h2
  refine rd_of (fun w' _ => ?_) k
  have hg : Tryz.prog.eqGuardType Tryz.prog.depth 117 = false := by kernel_rfl
  have e0 : ∀ xs ys w, (eqGuard .eql 117 x y (.agg xs) (.agg ys)).run Tryz.prog w = .ok () w := fun xs ys w => run_eqGuard_agg (P := Tryz.prog) w .eql 117 x y xs ys hg
  have e1 : ∀ xs ys w, (Op.equalIn 10000 117 (.agg xs) (.agg ys)).run Tryz.prog w = (Op.eqFields 9999 xs ys (Tryz.prog.fieldsOf 117).toList).run Tryz.prog w := fun xs ys w => run_equalIn_struct w 9999 117 xs ys (by kernel_rfl) (by kernel_rfl)
  have e2 : (Tryz.prog.fieldsOf 117).toList.map (fun f => (f.name, f.type, f.offset)) = [("Global", 3, 0), ("A", 3, 1), ("B", 3, 2)] := by kernel_rfl
  have e3 : ∀ (c d : Int) (w : World), (Op.equalIn 9999 3 (.int .i64 c) (.int .i64 d)).run Tryz.prog w = .ok (c == d) w := fun c d w => run_equalIn_int w 9998 3 .i64 .i64 c d u3
  have hd : (a = b) ↔ (a.g = b.g ∧ a.a = b.a ∧ a.b = b.b) := ⟨fun e => by rw [e]; exact ⟨rfl, rfl, rfl⟩, fun ⟨x, y, z⟩ => by cases a; cases b; simp only at x y z; rw [x, y, z]⟩
  generalize hF : (Tryz.prog.fieldsOf 117).toList = fs at e1 e2
  match fs, e2 with
  | [f0, f1, f2], e2 =>
    simp only [List.map_cons, List.map_nil, List.cons.injEq, Prod.mk.injEq, and_true] at e2
    obtain ⟨⟨n0, t0, o0⟩, ⟨n1, t1, o1⟩, ⟨n2, t2, o2⟩⟩ := e2
    have p0 : ∀ (a b c : Value) (w : World), (part 3 #[a, b, c] 0).run Tryz.prog w = .ok a w := fun a b c w => by simp [part, run_isAgg ty3]
    have p1 : ∀ (a b c : Value) (w : World), (part 3 #[a, b, c] 1).run Tryz.prog w = .ok b w := fun a b c w => by simp [part, run_isAgg ty3]
    have p2 : ∀ (a b c : Value) (w : World), (part 3 #[a, b, c] 2).run Tryz.prog w = .ok c w := fun a b c w => by simp [part, run_isAgg ty3]
    simp only [bin, Sem.run_bind, e0, Result.andThen_ok, run_eql_struct, e1, Op.eqFields, n0, n1, n2, t0, t1, t2, o0, o1, o2]
    simp only [ne_eq, String.reduceEq, not_false_eq_true, if_true, Sem.run_bind, p0, p1, p2, Result.andThen_ok, e3, Sem.run_ite, Sem.run_pure, hd]
    by_cases x0 : a.g = b.g <;> by_cases x1 : a.a = b.a <;> by_cases x2 : a.b = b.b <;> simp [x0, x1, x2]
set_option maxRecDepth 20000 in
theorem rd_neqDRace {w w0 w1 : World} {K : Value → Prop} {x y : Operand} {v1 v2 : Value} {a b : DRace} (h1 : Is w0 v1 a) (h2 : Is w1 v2 b) (k : K (.bool (decide (a ≠ b)))) : RD Tryz.prog (bin .neq 117 x y v1 v2) w K := by
  obtain ⟨rfl, _⟩ := is_race.1 h1
  obtain ⟨rfl, _⟩ := is_race.1 h2
  refine rd_of (fun w' _ => ?_) k
  have hg : Tryz.prog.eqGuardType Tryz.prog.depth 117 = false := by kernel_rfl
  have e0 : ∀ xs ys w, (eqGuard .neq 117 x y (.agg xs) (.agg ys)).run Tryz.prog w = .ok () w := fun xs ys w => run_eqGuard_agg (P := Tryz.prog) w .neq 117 x y xs ys hg
  have e1 : ∀ xs ys w, (Op.equalIn 10000 117 (.agg xs) (.agg ys)).run Tryz.prog w = (Op.eqFields 9999 xs ys (Tryz.prog.fieldsOf 117).toList).run Tryz.prog w := fun xs ys w => run_equalIn_struct w 9999 117 xs ys (by kernel_rfl) (by kernel_rfl)
  have e2 : (Tryz.prog.fieldsOf 117).toList.map (fun f => (f.name, f.type, f.offset)) = [("Global", 3, 0), ("A", 3, 1), ("B", 3, 2)] := by kernel_rfl
  have e3 : ∀ (c d : Int) (w : World), (Op.equalIn 9999 3 (.int .i64 c) (.int .i64 d)).run Tryz.prog w = .ok (c == d) w := fun c d w => run_equalIn_int w 9998 3 .i64 .i64 c d u3
  have hd : (a = b) ↔ (a.g = b.g ∧ a.a = b.a ∧ a.b = b.b) := ⟨fun e => by rw [e]; exact ⟨rfl, rfl, rfl⟩, fun ⟨x, y, z⟩ => by cases a; cases b; simp only at x y z; rw [x, y, z]⟩
  generalize hF : (Tryz.prog.fieldsOf 117).toList = fs at e1 e2
  match fs, e2 with
  | [f0, f1, f2], e2 =>
    simp only [List.map_cons, List.map_nil, List.cons.injEq, Prod.mk.injEq, and_true] at e2
    obtain ⟨⟨n0, t0, o0⟩, ⟨n1, t1, o1⟩, ⟨n2, t2, o2⟩⟩ := e2
    have p0 : ∀ (a b c : Value) (w : World), (part 3 #[a, b, c] 0).run Tryz.prog w = .ok a w := fun a b c w => by simp [part, run_isAgg ty3]
    have p1 : ∀ (a b c : Value) (w : World), (part 3 #[a, b, c] 1).run Tryz.prog w = .ok b w := fun a b c w => by simp [part, run_isAgg ty3]
    have p2 : ∀ (a b c : Value) (w : World), (part 3 #[a, b, c] 2).run Tryz.prog w = .ok c w := fun a b c w => by simp [part, run_isAgg ty3]
    simp only [bin, Sem.run_bind, e0, Result.andThen_ok, run_neq_struct, e1, Op.eqFields, n0, n1, n2, t0, t1, t2, o0, o1, o2]
    simp only [ne_eq, String.reduceEq, not_false_eq_true, if_true, Sem.run_bind, p0, p1, p2, Result.andThen_ok, e3, Sem.run_ite, Sem.run_pure, hd]
    by_cases x0 : a.g = b.g <;> by_cases x1 : a.a = b.a <;> by_cases x2 : a.b = b.b <;> simp [x0, x1, x2, hd]
end Go.Proofs.YteephmhilnlkpaaGreat
