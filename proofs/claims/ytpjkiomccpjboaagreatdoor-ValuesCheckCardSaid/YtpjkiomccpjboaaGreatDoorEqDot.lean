/- Dots held against each other. -/
import Derived.Test.YtpjkiomccpjboaaGreatDoorDat
import Derived.Test.YtpjkiomccpjboaaGreatDoorTk
namespace Go.Proofs.YtpjkiomccpjboaaGreatDoor
open Go Go.Sx

theorem partI {P : Program} {t : TypeId} {w : World} {cs : Array Value} {off : Nat} {v : Value} (ht : P.underlying t = some (.int .i64)) (hv : cs[off]? = some v) : (part t cs off).run P w = .ok v w := by
  simp [part, isAgg, underlying, ht, hv, Result.andThen]
theorem eqInt {P : Program} {t : TypeId} (ht : P.underlying t = some (.int .i64)) (d : Nat) (x y : Int) (w : World) : (Op.equalIn (d + 1) t (.int .i64 x) (.int .i64 y)).run P w = .ok (x == y) w := by
  simp [Op.equalIn, run_underlying ht]
theorem eqDot (d : Nat) (a b c a' b' c' : Int) (w : World) : (Op.equalIn (d + 2) 65 (.agg #[.int .i64 a, .int .i64 b, .int .i64 c]) (.agg #[.int .i64 a', .int .i64 b', .int .i64 c'])).run Tryz.prog w = .ok (decide (a = a' ∧ b = b' ∧ c = c')) w := by
  have hs : Tryz.prog.stoodInHeld 65 = false := by kernel_rfl
  rw [Op.equalIn]
  by_cases h1 : a = a' <;> by_cases h2 : b = b' <;> by_cases h3 : c = c' <;>
  simp [run_underlying Tryz.underlying65, hs, eqInt Tryz.underlying3, partI Tryz.underlying3, Result.andThen, h1, h2, h3]
theorem eqRun_neq_65 {x y : Operand} {a b c a' b' c' : Int} : eqRun Tryz.prog .neq 65 x y (.agg #[.int .i64 a, .int .i64 b, .int .i64 c]) (.agg #[.int .i64 a', .int .i64 b', .int .i64 c']) (.bool (!decide (a = a' ∧ b = b' ∧ c = c'))) := fun w => by
  have h : (Op.equal 65 (.agg #[.int .i64 a, .int .i64 b, .int .i64 c]) (.agg #[.int .i64 a', .int .i64 b', .int .i64 c'])).run Tryz.prog w = .ok (decide (a = a' ∧ b = b' ∧ c = c')) w := eqDot 9998 a b c a' b' c' w
  refine ⟨?_, by simp only [binOp, Sem.run_bind, h, Result.andThen_ok, Sem.run_pure]⟩
  have hg : Tryz.prog.eqGuardType Tryz.prog.depth 65 = false := by kernel_rfl
  simp [eqGuard, hg]
end Go.Proofs.YtpjkiomccpjboaaGreatDoor
