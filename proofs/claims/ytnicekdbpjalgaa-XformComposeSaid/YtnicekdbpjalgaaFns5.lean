/- 'knows' of the statements returns true. -/
import Derived.Test.YtnicekdbpjalgaaFns4
namespace Go.Proofs.Ytnicekdbpjalgaa
open Go.RowKit Plain
set_option linter.unusedVariables false
attribute [local go_sem high] eqA23 eqA26
theorem kMeet (w : World) : Calls Try.prog 14 #[.agg #[.int .i64 1, .int .i64 0, .int .i64 9], .agg #[.int .i64 2, .int .i64 2, .int .i64 0]] w fun e w' => e = .returned (.agg #[.int .i64 3, .int .i64 2, .int .i64 9]) ∧ Below w.heap.size w w' := Me_con_shf 9 2 w
theorem kComp (w : World) : Calls Try.prog 12 #[.agg #[.int .i64 2, .int .i64 2, .int .i64 0], .agg #[.int .i64 3, .int .i64 1, .int .i64 9]] w fun e w' => e = .returned (.agg #[.int .i64 3, .int .i64 3, .int .i64 9]) ∧ Below w.heap.size w w' := by
  have h := Comp_shf_mt 2 1 9 w
  have e : encX (comp (Xf.shf 2) (Xf.mt 1 9)) = .agg #[.int .i64 3, .int .i64 3, .int .i64 9] := by simp [comp, encX, Xf.k, Xf.b, Xf.c, add, wrap64]
  rw [e] at h; exact h
theorem kSteps (w : World) : Calls Try.prog 16 #[.agg #[.int .i64 3, .int .i64 2, .int .i64 9]] w fun e w' => e = .returned (.int .i64 1) ∧ Below w.heap.size w w' := StepsC 3 2 9 w
theorem kCheck (w : World) : Calls Try.prog 18 #[.agg #[.int .i64 5, .int .i64 0, .int .i64 0]] w fun e w' => e = .returned (.int .i64 12) ∧ Below w.heap.size w w' := CheckC 5 0 0 w
set_option maxHeartbeats 4000000 in
theorem knowsC (w : World) : Calls Try.prog 11 #[] w fun e w' => e = .returned (.bool true) ∧ Below w.heap.size w w' := by
  go_enter Try.func11, Try.ntmps11
  go_wp2_with (first
    | (go_at_call 14; refine (kMeet _).mono ?_; rintro e w1 ⟨rfl, hb⟩; have hz := hb.size; (try simp at hz))
    | (go_at_call 12; refine (kComp _).mono ?_; rintro e w2 ⟨rfl, hb2⟩; have hz2 := hb2.size; (try simp at hz2); obtain ⟨m0, m1, m2, m3, m4, m5, mz⟩ := bx3 hb2)
    | (go_at_call 16; refine (kSteps _).mono ?_; rintro e w3 ⟨rfl, hb3⟩; have hz3 := hb3.size; (try simp at hz3))
    | (go_at_call 18; refine (kCheck _).mono ?_; rintro e w4 ⟨rfl, hb4⟩; have hz4 := hb4.size; (try simp at hz4)))
  go_ret
  exact ⟨rfl, (by repeat (first | assumption | exact Below.refl _ _ | refine Below.setCell ?_ (by first | (simp; done) | (simp; omega) | omega) _ | refine Below.alloc ?_ (by first | (simp; done) | (simp; omega) | omega) _ | refine Below.drew ?_ | (refine bstep (by assumption) ?_ (by first | (simp; done) | (simp; omega) | omega))))⟩
end Go.Proofs.Ytnicekdbpjalgaa
