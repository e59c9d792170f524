/- Compose, Meet and Steps of the reference over the five shapes of a transformer: they return the composition, the meet and the steps of the plain algebra. -/
import Derived.Test.YtnicekdbpjalgaaFns6
import Derived.Lib.Hide
namespace Go.Proofs.Ytnicekdbpjalgaa
open Go.RowKit Plain
set_option linter.unusedVariables false
set_option linter.unusedSimpArgs false
attribute [local go_sem high] eqA23 eqA26
theorem apS_shf (b n : Int) (w : World) : Calls Try.prog 21 #[.agg #[.int .i64 2, .int .i64 b, .int .i64 0], .agg #[.int .i64 1, .int .i64 n]] w fun e w' => e = .returned (.agg #[.int .i64 1, .int .i64 (wrap64 (n + b))]) ∧ Below w.heap.size w w' := by
  have h := ApplyS 2 b 0 1 n w
  have e : apS 2 b 0 1 n = (1, wrap64 (n + b)) := by simp [apS, sumR]
  rw [e] at h; exact h
theorem apS_mt_eq (b c n : Int) (hc : wrap64 (n + b) = c) (w : World) : Calls Try.prog 21 #[.agg #[.int .i64 3, .int .i64 b, .int .i64 c], .agg #[.int .i64 1, .int .i64 n]] w fun e w' => e = .returned (.agg #[.int .i64 1, .int .i64 c]) ∧ Below w.heap.size w w' := by
  have h := ApplyS 3 b c 1 n w
  have e : apS 3 b c 1 n = (1, c) := by simp [apS, sumR, mvR, hc]
  rw [e] at h; exact h
theorem apS_mt_ne (b c n : Int) (hc : ¬ wrap64 (n + b) = c) (w : World) : Calls Try.prog 21 #[.agg #[.int .i64 3, .int .i64 b, .int .i64 c], .agg #[.int .i64 1, .int .i64 n]] w fun e w' => e = .returned (.agg #[.int .i64 2, .int .i64 0]) ∧ Below w.heap.size w w' := by
  have h := ApplyS 3 b c 1 n w
  have e : apS 3 b c 1 n = (2, 0) := by simp [apS, sumR, mvR, hc]
  rw [e] at h; exact h

end Go.Proofs.Ytnicekdbpjalgaa
