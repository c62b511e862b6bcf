/- Dots held against each other. -/
import Derived.Test.YtgelnbgjabpdbaaDoorDat
import Derived.Test.YtgelnbgjabpdbaaDoorTk
namespace Go.Proofs.YtgelnbgjabpdbaaDoor
open Go Go.Sx

theorem partI {P : Program} {t : TypeId} {w : World} {cs : Array Value} {off : Nat} {v : Value} (ht : P.underlying t = some (.int .i64)) (hv : cs[off]? = some v) : (part t cs off).run P w = .ok v w := by
  simp [part, isAgg, underlying, ht, hv, Result.andThen]
theorem eqInt {P : Program} {t : TypeId} (ht : P.underlying t = some (.int .i64)) (d : Nat) (x y : Int) (w : World) : (Op.equalIn (d + 1) t (.int .i64 x) (.int .i64 y)).run P w = .ok (x == y) w := by
  simp [Op.equalIn, run_underlying ht]
theorem eqDot (d : Nat) (a b c a' b' c' : Int) (w : World) : (Op.equalIn (d + 2) 124 (.agg #[.int .i64 a, .int .i64 b, .int .i64 c]) (.agg #[.int .i64 a', .int .i64 b', .int .i64 c'])).run Tryd.prog w = .ok (decide (a = a' ∧ b = b' ∧ c = c')) w := by
  have hs : Tryd.prog.stoodInHeld 124 = false := by kernel_rfl
  rw [Op.equalIn]
  by_cases h1 : a = a' <;> by_cases h2 : b = b' <;> by_cases h3 : c = c' <;>
  simp [run_underlying Tryd.underlying124, hs, eqInt Tryd.underlying3, partI Tryd.underlying3, Result.andThen, h1, h2, h3]
theorem eqRun_neq_124 {x y : Operand} {a b c a' b' c' : Int} : eqRun Tryd.prog .neq 124 x y (.agg #[.int .i64 a, .int .i64 b, .int .i64 c]) (.agg #[.int .i64 a', .int .i64 b', .int .i64 c']) (.bool (!decide (a = a' ∧ b = b' ∧ c = c'))) := fun w => by
  have h : (Op.equal 124 (.agg #[.int .i64 a, .int .i64 b, .int .i64 c]) (.agg #[.int .i64 a', .int .i64 b', .int .i64 c'])).run Tryd.prog w = .ok (decide (a = a' ∧ b = b' ∧ c = c')) w := eqDot 9998 a b c a' b' c' w
  refine ⟨?_, by simp only [binOp, Sem.run_bind, h, Result.andThen_ok, Sem.run_pure]⟩
  have hg : Tryd.prog.eqGuardType Tryd.prog.depth 124 = false := by kernel_rfl
  simp [eqGuard, hg]
end Go.Proofs.YtgelnbgjabpdbaaDoor
