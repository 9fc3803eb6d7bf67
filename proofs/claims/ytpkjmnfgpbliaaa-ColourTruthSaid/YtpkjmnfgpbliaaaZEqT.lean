/-
  Equality of two ranges. Conditions: none.
-/
import Derived.Test.YtpkjmnfgpbliaaaZTys
import Derived.WalkKit
namespace Go.Proofs.Ytpkjmnfgpbliaaa
open Go.RowKit
set_option linter.unusedSimpArgs false
set_option linter.unusedVariables false

theorem eqOk24 : EqOk Try.prog 24 2 := by
  intro xs ys hx hy w x y
  obtain ⟨a, b, rfl⟩ : ∃ a b, xs = [a, b] := by
    match xs, hx with
    | [a, b], _ => exact ⟨a, b, rfl⟩
  obtain ⟨c, d, rfl⟩ : ∃ a b, ys = [a, b] := by
    match ys, hy with
    | [a, b], _ => exact ⟨a, b, rfl⟩
  have hm : Try.prog.eqGuardType Try.prog.depth 24 = false := by kernel_rfl
  have hp : Try.prog.stoodInHeld 24 = false := by kernel_rfl
  have hu := Try.underlying24
  have h3 := Try.underlying3
  have e : (Op.equalIn 10000 24 (.agg #[.int .i64 a, .int .i64 b]) (.agg #[.int .i64 c, .int .i64 d])).run Try.prog w = .ok ([a, b] == [c, d]) w := by
    rw [run_equalIn_struct w 9999 24 _ _ (by rw [Program.fieldsOf, hu]) hp]
    simp [Program.fieldsOf, hu, Op.eqFields, go_sem, h3]
    by_cases h1 : a = c <;> by_cases h2 : b = d <;> simp [h1, h2]
  constructor
  · simp only [List.map_cons, List.map_nil, Sem.run_bind]
    rw [run_eqGuard_agg _ _ _ _ _ _ _ hm]
    simp only [Result.andThen_ok, run_eql_struct]
    rw [e]; rfl
  · simp only [List.map_cons, List.map_nil, Sem.run_bind]
    rw [run_eqGuard_agg _ _ _ _ _ _ _ hm]
    simp only [Result.andThen_ok, run_neq_struct]
    rw [e]; rfl
def eqsC : List (TypeId × Nat) := [(24, 2)]
theorem eqs_ok : ∀ T n, getA eqsC T = some n → EqOk Try.prog T n := by
  intro T n h
  simp only [eqsC, getA] at h
  split at h
  · rename_i e; subst e; cases h; exact eqOk24
  · cases h
end Go.Proofs.Ytpkjmnfgpbliaaa
