/- The contracts over the shapes: what Apply, MeetValue, Check, Steps and Below answer of a transformer and of values that are valid. -/
import Derived.Test.YtnicekdbpjalgaaFns5
namespace Go.Proofs.Ytnicekdbpjalgaa
open Go.RowKit Plain
set_option linter.unusedVariables false
set_option linter.unusedSimpArgs false
attribute [local go_sem high] eqA23 eqA26
theorem chk0 (x : Xf) : chkR x.k x.b x.c = 0 := by cases x <;> simp [chkR, Xf.k, Xf.b, Xf.c]
theorem chk_ok (x : Xf) : (chkR x.k x.b x.c == 0) = true := by rw [chk0]; rfl
theorem cv_ok (v : Vl) : (cvR v.k v.n == 0) = true := by cases v <;> simp [cvR, Vl.k, Vl.n]
theorem chk_xf {a b c : Int} (h : (chkR a b c == 0) = true) : ∃ x : Xf, a = x.k ∧ b = x.b ∧ c = x.c := by
  refine xf_of ?_
  have h' : chkR a b c = 0 := by simpa using h
  unfold chkR at h'
  split at h'
  · omega
  · split at h' <;> omega
theorem cv_vl {a n : Int} (h : (cvR a n == 0) = true) : ∃ v : Vl, a = v.k ∧ n = v.n := by
  refine vl_of ?_
  have h' : cvR a n = 0 := by simpa using h
  unfold cvR at h'
  split at h'
  · omega
  · split at h' <;> omega
theorem mv_eq (v u : Vl) : mvR v.k v.n u.k u.n = ((meetV v u).k, (meetV v u).n) := by
  cases v <;> cases u <;> simp [mvR, meetV, Vl.k, Vl.n]
  rename_i a b
  by_cases h : a = b <;> simp [h]
theorem ap_eq (x : Xf) (v : Vl) : apR x.k x.b x.c v.k v.n = ((ap x v).k, (ap x v).n) := by
  cases x <;> cases v <;> simp [apR, ap, Xf.k, Xf.b, Xf.c, Vl.k, Vl.n, sumR, sum, add, mvR, meetV]
  rename_i b c n
  by_cases h : wrap64 (n + b) = c <;> simp [h]
theorem ap_eqS (x : Xf) (v : Vl) : apS x.k x.b x.c v.k v.n = ((ap x v).k, (ap x v).n) := by
  cases x <;> cases v <;> simp [apS, ap, Xf.k, Xf.b, Xf.c, Vl.k, Vl.n, sumR, sum, add, mvR, meetV]
  rename_i b c n
  by_cases h : wrap64 (n + b) = c <;> simp [h]
theorem be_eq (v u : Vl) : beR v.k v.n u.k u.n = beS v.k v.n u.k u.n := by
  cases v <;> cases u <;> simp [beR, beS, mvR, Vl.k, Vl.n]
  rename_i a b
  by_cases h : a = b <;> simp [h]
theorem meX (x y : Xf) (w : World) : Calls Try.prog 14 #[.agg #[.int .i64 x.k, .int .i64 x.b, .int .i64 x.c], .agg #[.int .i64 y.k, .int .i64 y.b, .int .i64 y.c]] w fun e w' => e = .returned (.agg #[.int .i64 (meet x y).k, .int .i64 (meet x y).b, .int .i64 (meet x y).c]) ∧ Below w.heap.size w w' := by
  exact MeX x y w
theorem coX (x y : Xf) (w : World) : Calls Try.prog 12 #[.agg #[.int .i64 x.k, .int .i64 x.b, .int .i64 x.c], .agg #[.int .i64 y.k, .int .i64 y.b, .int .i64 y.c]] w fun e w' => e = .returned (.agg #[.int .i64 (comp x y).k, .int .i64 (comp x y).b, .int .i64 (comp x y).c]) ∧ Below w.heap.size w w' := by
  exact CompX x y w
theorem apX (x : Xf) (v : Vl) (w : World) : Calls Try.prog 19 #[.agg #[.int .i64 x.k, .int .i64 x.b, .int .i64 x.c], .agg #[.int .i64 v.k, .int .i64 v.n]] w fun e w' => e = .returned (.agg #[.int .i64 (ap x v).k, .int .i64 (ap x v).n]) ∧ Below w.heap.size w w' := by
  have h := ApplyC x.k x.b x.c v.k v.n w
  rw [ap_eq] at h
  exact h
theorem apXS (x : Xf) (v : Vl) (w : World) : Calls Try.prog 21 #[.agg #[.int .i64 x.k, .int .i64 x.b, .int .i64 x.c], .agg #[.int .i64 v.k, .int .i64 v.n]] w fun e w' => e = .returned (.agg #[.int .i64 (ap x v).k, .int .i64 (ap x v).n]) ∧ Below w.heap.size w w' := by
  have h := ApplyS x.k x.b x.c v.k v.n w
  rw [ap_eqS] at h
  exact h
theorem mvX (v u : Vl) (w : World) : Calls Try.prog 20 #[.agg #[.int .i64 v.k, .int .i64 v.n], .agg #[.int .i64 u.k, .int .i64 u.n]] w fun e w' => e = .returned (.agg #[.int .i64 (meetV v u).k, .int .i64 (meetV v u).n]) ∧ Below w.heap.size w w' := by
  have h := MeetValueC v.k v.n u.k u.n w
  rw [mv_eq] at h
  exact h
theorem mvXS (v u : Vl) (w : World) : Calls Try.prog 22 #[.agg #[.int .i64 v.k, .int .i64 v.n], .agg #[.int .i64 u.k, .int .i64 u.n]] w fun e w' => e = .returned (.agg #[.int .i64 (meetV v u).k, .int .i64 (meetV v u).n]) ∧ Below w.heap.size w w' := by
  have h := MeetValueS v.k v.n u.k u.n w
  rw [mv_eq] at h
  exact h
theorem ckX (x : Xf) (w : World) : Calls Try.prog 18 #[.agg #[.int .i64 x.k, .int .i64 x.b, .int .i64 x.c]] w fun e w' => e = .returned (.int .i64 0) ∧ Below w.heap.size w w' := by
  have h := CheckC x.k x.b x.c w
  rw [chk0] at h
  exact h
theorem beX (v u : Vl) (w : World) : Calls Try.prog 23 #[.agg #[.int .i64 v.k, .int .i64 v.n], .agg #[.int .i64 u.k, .int .i64 u.n]] w fun e w' => e = .returned (.bool (beR v.k v.n u.k u.n)) ∧ Below w.heap.size w w' := by
  exact BelowC _ _ _ _ w
theorem beXS (v u : Vl) (w : World) : Calls Try.prog 24 #[.agg #[.int .i64 v.k, .int .i64 v.n], .agg #[.int .i64 u.k, .int .i64 u.n]] w fun e w' => e = .returned (.bool (beR v.k v.n u.k u.n)) ∧ Below w.heap.size w w' := by
  have h := BelowS v.k v.n u.k u.n w
  rw [← be_eq] at h
  exact h
end Go.Proofs.Ytnicekdbpjalgaa
