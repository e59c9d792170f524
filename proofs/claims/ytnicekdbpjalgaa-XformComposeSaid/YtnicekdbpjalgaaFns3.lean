/- Compose and Meet of xform over the five shapes of a transformer: they return the composition and the meet of the plain algebra. -/
import Derived.Test.YtnicekdbpjalgaaFns2
namespace Go.Proofs.Ytnicekdbpjalgaa
open Go.RowKit Plain
set_option linter.unusedVariables false
set_option linter.unusedSimpArgs false
attribute [local go_sem high] eqA23 eqA26
def encX (x : Xf) : Value := .agg #[.int .i64 x.k, .int .i64 x.b, .int .i64 x.c]
def encV (v : Vl) : Value := .agg #[.int .i64 v.k, .int .i64 v.n]
theorem comp_b (b b' c : Int) : wrap64 (b + wrap64 (wrap64 (c + b') - c)) = wrap64 (b + b') := by unfold wrap64; omega
theorem follow_shf (b n : Int) (w : World) : Calls Try.prog 28 #[.agg #[.int .i64 2, .int .i64 b, .int .i64 0], .int .i64 n] w fun e w' => e = .returned (.agg #[.int .i64 1, .int .i64 0, .int .i64 (wrap64 (n + b))]) ∧ Below w.heap.size w w' := by
  have h := followC 2 b 0 n w
  have e : foR 2 b 0 n = (1, 0, wrap64 (n + b)) := by simp [foR, apR, sumR]
  rw [e] at h; exact h
theorem follow_mt_eq (b c n : Int) (hc : wrap64 (n + b) = c) (w : World) : Calls Try.prog 28 #[.agg #[.int .i64 3, .int .i64 b, .int .i64 c], .int .i64 n] w fun e w' => e = .returned (.agg #[.int .i64 1, .int .i64 0, .int .i64 c]) ∧ Below w.heap.size w w' := by
  have h := followC 3 b c n w
  have e : foR 3 b c n = (1, 0, c) := by simp [foR, apR, sumR, mvR, hc]
  rw [e] at h; exact h
theorem follow_mt_ne (b c n : Int) (hc : ¬ wrap64 (n + b) = c) (w : World) : Calls Try.prog 28 #[.agg #[.int .i64 3, .int .i64 b, .int .i64 c], .int .i64 n] w fun e w' => e = .returned (.agg #[.int .i64 4, .int .i64 0, .int .i64 0]) ∧ Below w.heap.size w w' := by
  have h := followC 3 b c n w
  have e : foR 3 b c n = (4, 0, 0) := by simp [foR, apR, sumR, mvR, hc]
  rw [e] at h; exact h

set_option maxHeartbeats 1000000 in
theorem Comp_top_top   (w : World) : Calls Try.prog 12 #[.agg #[.int .i64 0, .int .i64 0, .int .i64 0], .agg #[.int .i64 0, .int .i64 0, .int .i64 0]] w fun e w' => e = .returned (encX (comp (Xf.top) (Xf.top))) ∧ Below w.heap.size w w' := by
  go_enter Try.func12, Try.ntmps12
  go_wp2_with fail
  all_goals exact bodyPost_ret (by first | (simp [results, Try.results12, go_sem]; done) | (simp [results, Try.results12, go_sem, hc1, hz1, l0, l1, l2]; done) | (simp [results, Try.results12, go_sem]; rfl) | (simp [results, Try.results12, go_sem, hc1, hz1, l0, l1, l2]; rfl)) rfl ⟨by first | rfl | (simp_all [comp, Xf.k, Xf.b, Xf.c, encX, add, comp_b]; done) | (simp_all [comp, Xf.k, Xf.b, Xf.c, encX, add, comp_b, Int.add_comm]; done), (by repeat (first | exact Below.refl _ _ | refine Below.setCell ?_ (by first | (simp; done) | (simp; omega) | omega) _ | refine Below.alloc ?_ (by first | (simp; done) | (simp; omega) | omega) _ | (refine bstep (by assumption) ?_ (by first | (simp; done) | (simp; omega) | omega))))⟩
set_option maxHeartbeats 1000000 in
theorem Comp_top_con (c2 : Int)  (w : World) : Calls Try.prog 12 #[.agg #[.int .i64 0, .int .i64 0, .int .i64 0], .agg #[.int .i64 1, .int .i64 0, .int .i64 c2]] w fun e w' => e = .returned (encX (comp (Xf.top) (Xf.con c2))) ∧ Below w.heap.size w w' := by
  go_enter Try.func12, Try.ntmps12
  go_wp2_with fail
  all_goals exact bodyPost_ret (by first | (simp [results, Try.results12, go_sem]; done) | (simp [results, Try.results12, go_sem, hc1, hz1, l0, l1, l2]; done) | (simp [results, Try.results12, go_sem]; rfl) | (simp [results, Try.results12, go_sem, hc1, hz1, l0, l1, l2]; rfl)) rfl ⟨by first | rfl | (simp_all [comp, Xf.k, Xf.b, Xf.c, encX, add, comp_b]; done) | (simp_all [comp, Xf.k, Xf.b, Xf.c, encX, add, comp_b, Int.add_comm]; done), (by repeat (first | exact Below.refl _ _ | refine Below.setCell ?_ (by first | (simp; done) | (simp; omega) | omega) _ | refine Below.alloc ?_ (by first | (simp; done) | (simp; omega) | omega) _ | (refine bstep (by assumption) ?_ (by first | (simp; done) | (simp; omega) | omega))))⟩
set_option maxHeartbeats 1000000 in
theorem Comp_top_shf (b2 : Int)  (w : World) : Calls Try.prog 12 #[.agg #[.int .i64 0, .int .i64 0, .int .i64 0], .agg #[.int .i64 2, .int .i64 b2, .int .i64 0]] w fun e w' => e = .returned (encX (comp (Xf.top) (Xf.shf b2))) ∧ Below w.heap.size w w' := by
  go_enter Try.func12, Try.ntmps12
  go_wp2_with fail
  all_goals exact bodyPost_ret (by first | (simp [results, Try.results12, go_sem]; done) | (simp [results, Try.results12, go_sem, hc1, hz1, l0, l1, l2]; done) | (simp [results, Try.results12, go_sem]; rfl) | (simp [results, Try.results12, go_sem, hc1, hz1, l0, l1, l2]; rfl)) rfl ⟨by first | rfl | (simp_all [comp, Xf.k, Xf.b, Xf.c, encX, add, comp_b]; done) | (simp_all [comp, Xf.k, Xf.b, Xf.c, encX, add, comp_b, Int.add_comm]; done), (by repeat (first | exact Below.refl _ _ | refine Below.setCell ?_ (by first | (simp; done) | (simp; omega) | omega) _ | refine Below.alloc ?_ (by first | (simp; done) | (simp; omega) | omega) _ | (refine bstep (by assumption) ?_ (by first | (simp; done) | (simp; omega) | omega))))⟩
set_option maxHeartbeats 1000000 in
theorem Comp_top_mt (b2 c2 : Int)  (w : World) : Calls Try.prog 12 #[.agg #[.int .i64 0, .int .i64 0, .int .i64 0], .agg #[.int .i64 3, .int .i64 b2, .int .i64 c2]] w fun e w' => e = .returned (encX (comp (Xf.top) (Xf.mt b2 c2))) ∧ Below w.heap.size w w' := by
  go_enter Try.func12, Try.ntmps12
  go_wp2_with fail
  all_goals exact bodyPost_ret (by first | (simp [results, Try.results12, go_sem]; done) | (simp [results, Try.results12, go_sem, hc1, hz1, l0, l1, l2]; done) | (simp [results, Try.results12, go_sem]; rfl) | (simp [results, Try.results12, go_sem, hc1, hz1, l0, l1, l2]; rfl)) rfl ⟨by first | rfl | (simp_all [comp, Xf.k, Xf.b, Xf.c, encX, add, comp_b]; done) | (simp_all [comp, Xf.k, Xf.b, Xf.c, encX, add, comp_b, Int.add_comm]; done), (by repeat (first | exact Below.refl _ _ | refine Below.setCell ?_ (by first | (simp; done) | (simp; omega) | omega) _ | refine Below.alloc ?_ (by first | (simp; done) | (simp; omega) | omega) _ | (refine bstep (by assumption) ?_ (by first | (simp; done) | (simp; omega) | omega))))⟩
set_option maxHeartbeats 1000000 in
theorem Comp_top_bot   (w : World) : Calls Try.prog 12 #[.agg #[.int .i64 0, .int .i64 0, .int .i64 0], .agg #[.int .i64 4, .int .i64 0, .int .i64 0]] w fun e w' => e = .returned (encX (comp (Xf.top) (Xf.bot))) ∧ Below w.heap.size w w' := by
  go_enter Try.func12, Try.ntmps12
  go_wp2_with fail
  all_goals exact bodyPost_ret (by first | (simp [results, Try.results12, go_sem]; done) | (simp [results, Try.results12, go_sem, hc1, hz1, l0, l1, l2]; done) | (simp [results, Try.results12, go_sem]; rfl) | (simp [results, Try.results12, go_sem, hc1, hz1, l0, l1, l2]; rfl)) rfl ⟨by first | rfl | (simp_all [comp, Xf.k, Xf.b, Xf.c, encX, add, comp_b]; done) | (simp_all [comp, Xf.k, Xf.b, Xf.c, encX, add, comp_b, Int.add_comm]; done), (by repeat (first | exact Below.refl _ _ | refine Below.setCell ?_ (by first | (simp; done) | (simp; omega) | omega) _ | refine Below.alloc ?_ (by first | (simp; done) | (simp; omega) | omega) _ | (refine bstep (by assumption) ?_ (by first | (simp; done) | (simp; omega) | omega))))⟩
set_option maxHeartbeats 1000000 in
theorem Comp_con_top (c1 : Int)  (w : World) : Calls Try.prog 12 #[.agg #[.int .i64 1, .int .i64 0, .int .i64 c1], .agg #[.int .i64 0, .int .i64 0, .int .i64 0]] w fun e w' => e = .returned (encX (comp (Xf.con c1) (Xf.top))) ∧ Below w.heap.size w w' := by
  go_enter Try.func12, Try.ntmps12
  go_wp2_with fail
  all_goals exact bodyPost_ret (by first | (simp [results, Try.results12, go_sem]; done) | (simp [results, Try.results12, go_sem, hc1, hz1, l0, l1, l2]; done) | (simp [results, Try.results12, go_sem]; rfl) | (simp [results, Try.results12, go_sem, hc1, hz1, l0, l1, l2]; rfl)) rfl ⟨by first | rfl | (simp_all [comp, Xf.k, Xf.b, Xf.c, encX, add, comp_b]; done) | (simp_all [comp, Xf.k, Xf.b, Xf.c, encX, add, comp_b, Int.add_comm]; done), (by repeat (first | exact Below.refl _ _ | refine Below.setCell ?_ (by first | (simp; done) | (simp; omega) | omega) _ | refine Below.alloc ?_ (by first | (simp; done) | (simp; omega) | omega) _ | (refine bstep (by assumption) ?_ (by first | (simp; done) | (simp; omega) | omega))))⟩
set_option maxHeartbeats 1000000 in
theorem Comp_con_con (c1 c2 : Int)  (w : World) : Calls Try.prog 12 #[.agg #[.int .i64 1, .int .i64 0, .int .i64 c1], .agg #[.int .i64 1, .int .i64 0, .int .i64 c2]] w fun e w' => e = .returned (encX (comp (Xf.con c1) (Xf.con c2))) ∧ Below w.heap.size w w' := by
  go_enter Try.func12, Try.ntmps12
  go_wp2_with fail
  all_goals exact bodyPost_ret (by first | (simp [results, Try.results12, go_sem]; done) | (simp [results, Try.results12, go_sem, hc1, hz1, l0, l1, l2]; done) | (simp [results, Try.results12, go_sem]; rfl) | (simp [results, Try.results12, go_sem, hc1, hz1, l0, l1, l2]; rfl)) rfl ⟨by first | rfl | (simp_all [comp, Xf.k, Xf.b, Xf.c, encX, add, comp_b]; done) | (simp_all [comp, Xf.k, Xf.b, Xf.c, encX, add, comp_b, Int.add_comm]; done), (by repeat (first | exact Below.refl _ _ | refine Below.setCell ?_ (by first | (simp; done) | (simp; omega) | omega) _ | refine Below.alloc ?_ (by first | (simp; done) | (simp; omega) | omega) _ | (refine bstep (by assumption) ?_ (by first | (simp; done) | (simp; omega) | omega))))⟩
set_option maxHeartbeats 1000000 in
theorem Comp_con_shf (c1 b2 : Int)  (w : World) : Calls Try.prog 12 #[.agg #[.int .i64 1, .int .i64 0, .int .i64 c1], .agg #[.int .i64 2, .int .i64 b2, .int .i64 0]] w fun e w' => e = .returned (encX (comp (Xf.con c1) (Xf.shf b2))) ∧ Below w.heap.size w w' := by
  go_enter Try.func12, Try.ntmps12
  go_wp2_with (go_at_call 28; refine (follow_shf _ _ _).mono ?_; rintro e w1 ⟨rfl, hb⟩; obtain ⟨hc1, hf1⟩ := bcell hb; have hz1 := hb.size; (try simp at hz1); have l0 : w.heap.size < w1.heap.size := (by omega); have l1 : w.heap.size + 1 < w1.heap.size := (by omega); have l2 : w.heap.size + 1 + 1 < w1.heap.size := (by omega))
  all_goals exact bodyPost_ret (by first | (simp [results, Try.results12, go_sem]; done) | (simp [results, Try.results12, go_sem, hc1, hz1, l0, l1, l2]; done) | (simp [results, Try.results12, go_sem]; rfl) | (simp [results, Try.results12, go_sem, hc1, hz1, l0, l1, l2]; rfl)) rfl ⟨by first | rfl | (simp_all [comp, Xf.k, Xf.b, Xf.c, encX, add, comp_b]; done) | (simp_all [comp, Xf.k, Xf.b, Xf.c, encX, add, comp_b, Int.add_comm]; done), (by repeat (first | exact Below.refl _ _ | refine Below.setCell ?_ (by first | (simp; done) | (simp; omega) | omega) _ | refine Below.alloc ?_ (by first | (simp; done) | (simp; omega) | omega) _ | (refine bstep (by assumption) ?_ (by first | (simp; done) | (simp; omega) | omega))))⟩
set_option maxHeartbeats 1000000 in
theorem CompE_con_mt (c1 b2 c2 : Int) (h : wrap64 (c1 + b2) = c2) (w : World) : Calls Try.prog 12 #[.agg #[.int .i64 1, .int .i64 0, .int .i64 c1], .agg #[.int .i64 3, .int .i64 b2, .int .i64 c2]] w fun e w' => e = .returned (encX (comp (Xf.con c1) (Xf.mt b2 c2))) ∧ Below w.heap.size w w' := by
  go_enter Try.func12, Try.ntmps12
  go_wp2_with (go_at_call 28; refine (follow_mt_eq _ _ _ (by assumption) _).mono ?_; rintro e w1 ⟨rfl, hb⟩; obtain ⟨hc1, hf1⟩ := bcell hb; have hz1 := hb.size; (try simp at hz1); have l0 : w.heap.size < w1.heap.size := (by omega); have l1 : w.heap.size + 1 < w1.heap.size := (by omega); have l2 : w.heap.size + 1 + 1 < w1.heap.size := (by omega))
  all_goals exact bodyPost_ret (by first | (simp [results, Try.results12, go_sem]; done) | (simp [results, Try.results12, go_sem, hc1, hz1, l0, l1, l2]; done) | (simp [results, Try.results12, go_sem]; rfl) | (simp [results, Try.results12, go_sem, hc1, hz1, l0, l1, l2]; rfl)) rfl ⟨by first | rfl | (simp_all [comp, Xf.k, Xf.b, Xf.c, encX, add, comp_b, ← h]; done) | (simp_all [comp, Xf.k, Xf.b, Xf.c, encX, add, comp_b, ← h, Int.add_comm]; done), (by repeat (first | exact Below.refl _ _ | refine Below.setCell ?_ (by first | (simp; done) | (simp; omega) | omega) _ | refine Below.alloc ?_ (by first | (simp; done) | (simp; omega) | omega) _ | (refine bstep (by assumption) ?_ (by first | (simp; done) | (simp; omega) | omega))))⟩
set_option maxHeartbeats 1000000 in
theorem CompN_con_mt (c1 b2 c2 : Int) (h : ¬ wrap64 (c1 + b2) = c2) (w : World) : Calls Try.prog 12 #[.agg #[.int .i64 1, .int .i64 0, .int .i64 c1], .agg #[.int .i64 3, .int .i64 b2, .int .i64 c2]] w fun e w' => e = .returned (encX (comp (Xf.con c1) (Xf.mt b2 c2))) ∧ Below w.heap.size w w' := by
  go_enter Try.func12, Try.ntmps12
  go_wp2_with (go_at_call 28; refine (follow_mt_ne _ _ _ (by assumption) _).mono ?_; rintro e w1 ⟨rfl, hb⟩; obtain ⟨hc1, hf1⟩ := bcell hb; have hz1 := hb.size; (try simp at hz1); have l0 : w.heap.size < w1.heap.size := (by omega); have l1 : w.heap.size + 1 < w1.heap.size := (by omega); have l2 : w.heap.size + 1 + 1 < w1.heap.size := (by omega))
  all_goals exact bodyPost_ret (by first | (simp [results, Try.results12, go_sem]; done) | (simp [results, Try.results12, go_sem, hc1, hz1, l0, l1, l2]; done) | (simp [results, Try.results12, go_sem]; rfl) | (simp [results, Try.results12, go_sem, hc1, hz1, l0, l1, l2]; rfl)) rfl ⟨by first | rfl | (simp_all [comp, Xf.k, Xf.b, Xf.c, encX, add, comp_b]; done) | (simp_all [comp, Xf.k, Xf.b, Xf.c, encX, add, comp_b, Int.add_comm]; done), (by repeat (first | exact Below.refl _ _ | refine Below.setCell ?_ (by first | (simp; done) | (simp; omega) | omega) _ | refine Below.alloc ?_ (by first | (simp; done) | (simp; omega) | omega) _ | (refine bstep (by assumption) ?_ (by first | (simp; done) | (simp; omega) | omega))))⟩
set_option maxHeartbeats 1000000 in
theorem Comp_con_bot (c1 : Int)  (w : World) : Calls Try.prog 12 #[.agg #[.int .i64 1, .int .i64 0, .int .i64 c1], .agg #[.int .i64 4, .int .i64 0, .int .i64 0]] w fun e w' => e = .returned (encX (comp (Xf.con c1) (Xf.bot))) ∧ Below w.heap.size w w' := by
  go_enter Try.func12, Try.ntmps12
  go_wp2_with fail
  all_goals exact bodyPost_ret (by first | (simp [results, Try.results12, go_sem]; done) | (simp [results, Try.results12, go_sem, hc1, hz1, l0, l1, l2]; done) | (simp [results, Try.results12, go_sem]; rfl) | (simp [results, Try.results12, go_sem, hc1, hz1, l0, l1, l2]; rfl)) rfl ⟨by first | rfl | (simp_all [comp, Xf.k, Xf.b, Xf.c, encX, add, comp_b]; done) | (simp_all [comp, Xf.k, Xf.b, Xf.c, encX, add, comp_b, Int.add_comm]; done), (by repeat (first | exact Below.refl _ _ | refine Below.setCell ?_ (by first | (simp; done) | (simp; omega) | omega) _ | refine Below.alloc ?_ (by first | (simp; done) | (simp; omega) | omega) _ | (refine bstep (by assumption) ?_ (by first | (simp; done) | (simp; omega) | omega))))⟩
set_option maxHeartbeats 1000000 in
theorem Comp_shf_top (b1 : Int)  (w : World) : Calls Try.prog 12 #[.agg #[.int .i64 2, .int .i64 b1, .int .i64 0], .agg #[.int .i64 0, .int .i64 0, .int .i64 0]] w fun e w' => e = .returned (encX (comp (Xf.shf b1) (Xf.top))) ∧ Below w.heap.size w w' := by
  go_enter Try.func12, Try.ntmps12
  go_wp2_with fail
  all_goals exact bodyPost_ret (by first | (simp [results, Try.results12, go_sem]; done) | (simp [results, Try.results12, go_sem, hc1, hz1, l0, l1, l2]; done) | (simp [results, Try.results12, go_sem]; rfl) | (simp [results, Try.results12, go_sem, hc1, hz1, l0, l1, l2]; rfl)) rfl ⟨by first | rfl | (simp_all [comp, Xf.k, Xf.b, Xf.c, encX, add, comp_b]; done) | (simp_all [comp, Xf.k, Xf.b, Xf.c, encX, add, comp_b, Int.add_comm]; done), (by repeat (first | exact Below.refl _ _ | refine Below.setCell ?_ (by first | (simp; done) | (simp; omega) | omega) _ | refine Below.alloc ?_ (by first | (simp; done) | (simp; omega) | omega) _ | (refine bstep (by assumption) ?_ (by first | (simp; done) | (simp; omega) | omega))))⟩
set_option maxHeartbeats 1000000 in
theorem Comp_shf_con (b1 c2 : Int)  (w : World) : Calls Try.prog 12 #[.agg #[.int .i64 2, .int .i64 b1, .int .i64 0], .agg #[.int .i64 1, .int .i64 0, .int .i64 c2]] w fun e w' => e = .returned (encX (comp (Xf.shf b1) (Xf.con c2))) ∧ Below w.heap.size w w' := by
  go_enter Try.func12, Try.ntmps12
  go_wp2_with fail
  all_goals exact bodyPost_ret (by first | (simp [results, Try.results12, go_sem]; done) | (simp [results, Try.results12, go_sem, hc1, hz1, l0, l1, l2]; done) | (simp [results, Try.results12, go_sem]; rfl) | (simp [results, Try.results12, go_sem, hc1, hz1, l0, l1, l2]; rfl)) rfl ⟨by first | rfl | (simp_all [comp, Xf.k, Xf.b, Xf.c, encX, add, comp_b]; done) | (simp_all [comp, Xf.k, Xf.b, Xf.c, encX, add, comp_b, Int.add_comm]; done), (by repeat (first | exact Below.refl _ _ | refine Below.setCell ?_ (by first | (simp; done) | (simp; omega) | omega) _ | refine Below.alloc ?_ (by first | (simp; done) | (simp; omega) | omega) _ | (refine bstep (by assumption) ?_ (by first | (simp; done) | (simp; omega) | omega))))⟩
set_option maxHeartbeats 1000000 in
theorem Comp_shf_shf (b1 b2 : Int)  (w : World) : Calls Try.prog 12 #[.agg #[.int .i64 2, .int .i64 b1, .int .i64 0], .agg #[.int .i64 2, .int .i64 b2, .int .i64 0]] w fun e w' => e = .returned (encX (comp (Xf.shf b1) (Xf.shf b2))) ∧ Below w.heap.size w w' := by
  go_enter Try.func12, Try.ntmps12
  go_wp2_with fail
  all_goals exact bodyPost_ret (by first | (simp [results, Try.results12, go_sem]; done) | (simp [results, Try.results12, go_sem, hc1, hz1, l0, l1, l2]; done) | (simp [results, Try.results12, go_sem]; rfl) | (simp [results, Try.results12, go_sem, hc1, hz1, l0, l1, l2]; rfl)) rfl ⟨by first | rfl | (simp_all [comp, Xf.k, Xf.b, Xf.c, encX, add, comp_b]; done) | (simp_all [comp, Xf.k, Xf.b, Xf.c, encX, add, comp_b, Int.add_comm]; done), (by repeat (first | exact Below.refl _ _ | refine Below.setCell ?_ (by first | (simp; done) | (simp; omega) | omega) _ | refine Below.alloc ?_ (by first | (simp; done) | (simp; omega) | omega) _ | (refine bstep (by assumption) ?_ (by first | (simp; done) | (simp; omega) | omega))))⟩
set_option maxHeartbeats 1000000 in
theorem Comp_shf_mt (b1 b2 c2 : Int)  (w : World) : Calls Try.prog 12 #[.agg #[.int .i64 2, .int .i64 b1, .int .i64 0], .agg #[.int .i64 3, .int .i64 b2, .int .i64 c2]] w fun e w' => e = .returned (encX (comp (Xf.shf b1) (Xf.mt b2 c2))) ∧ Below w.heap.size w w' := by
  go_enter Try.func12, Try.ntmps12
  go_wp2_with fail
  all_goals exact bodyPost_ret (by first | (simp [results, Try.results12, go_sem]; done) | (simp [results, Try.results12, go_sem, hc1, hz1, l0, l1, l2]; done) | (simp [results, Try.results12, go_sem]; rfl) | (simp [results, Try.results12, go_sem, hc1, hz1, l0, l1, l2]; rfl)) rfl ⟨by first | rfl | (simp_all [comp, Xf.k, Xf.b, Xf.c, encX, add, comp_b]; done) | (simp_all [comp, Xf.k, Xf.b, Xf.c, encX, add, comp_b, Int.add_comm]; done), (by repeat (first | exact Below.refl _ _ | refine Below.setCell ?_ (by first | (simp; done) | (simp; omega) | omega) _ | refine Below.alloc ?_ (by first | (simp; done) | (simp; omega) | omega) _ | (refine bstep (by assumption) ?_ (by first | (simp; done) | (simp; omega) | omega))))⟩
set_option maxHeartbeats 1000000 in
theorem Comp_shf_bot (b1 : Int)  (w : World) : Calls Try.prog 12 #[.agg #[.int .i64 2, .int .i64 b1, .int .i64 0], .agg #[.int .i64 4, .int .i64 0, .int .i64 0]] w fun e w' => e = .returned (encX (comp (Xf.shf b1) (Xf.bot))) ∧ Below w.heap.size w w' := by
  go_enter Try.func12, Try.ntmps12
  go_wp2_with fail
  all_goals exact bodyPost_ret (by first | (simp [results, Try.results12, go_sem]; done) | (simp [results, Try.results12, go_sem, hc1, hz1, l0, l1, l2]; done) | (simp [results, Try.results12, go_sem]; rfl) | (simp [results, Try.results12, go_sem, hc1, hz1, l0, l1, l2]; rfl)) rfl ⟨by first | rfl | (simp_all [comp, Xf.k, Xf.b, Xf.c, encX, add, comp_b]; done) | (simp_all [comp, Xf.k, Xf.b, Xf.c, encX, add, comp_b, Int.add_comm]; done), (by repeat (first | exact Below.refl _ _ | refine Below.setCell ?_ (by first | (simp; done) | (simp; omega) | omega) _ | refine Below.alloc ?_ (by first | (simp; done) | (simp; omega) | omega) _ | (refine bstep (by assumption) ?_ (by first | (simp; done) | (simp; omega) | omega))))⟩
set_option maxHeartbeats 1000000 in
theorem Comp_mt_top (b1 c1 : Int)  (w : World) : Calls Try.prog 12 #[.agg #[.int .i64 3, .int .i64 b1, .int .i64 c1], .agg #[.int .i64 0, .int .i64 0, .int .i64 0]] w fun e w' => e = .returned (encX (comp (Xf.mt b1 c1) (Xf.top))) ∧ Below w.heap.size w w' := by
  go_enter Try.func12, Try.ntmps12
  go_wp2_with fail
  all_goals exact bodyPost_ret (by first | (simp [results, Try.results12, go_sem]; done) | (simp [results, Try.results12, go_sem, hc1, hz1, l0, l1, l2]; done) | (simp [results, Try.results12, go_sem]; rfl) | (simp [results, Try.results12, go_sem, hc1, hz1, l0, l1, l2]; rfl)) rfl ⟨by first | rfl | (simp_all [comp, Xf.k, Xf.b, Xf.c, encX, add, comp_b]; done) | (simp_all [comp, Xf.k, Xf.b, Xf.c, encX, add, comp_b, Int.add_comm]; done), (by repeat (first | exact Below.refl _ _ | refine Below.setCell ?_ (by first | (simp; done) | (simp; omega) | omega) _ | refine Below.alloc ?_ (by first | (simp; done) | (simp; omega) | omega) _ | (refine bstep (by assumption) ?_ (by first | (simp; done) | (simp; omega) | omega))))⟩
set_option maxHeartbeats 1000000 in
theorem Comp_mt_con (b1 c1 c2 : Int)  (w : World) : Calls Try.prog 12 #[.agg #[.int .i64 3, .int .i64 b1, .int .i64 c1], .agg #[.int .i64 1, .int .i64 0, .int .i64 c2]] w fun e w' => e = .returned (encX (comp (Xf.mt b1 c1) (Xf.con c2))) ∧ Below w.heap.size w w' := by
  go_enter Try.func12, Try.ntmps12
  go_wp2_with fail
  all_goals exact bodyPost_ret (by first | (simp [results, Try.results12, go_sem]; done) | (simp [results, Try.results12, go_sem, hc1, hz1, l0, l1, l2]; done) | (simp [results, Try.results12, go_sem]; rfl) | (simp [results, Try.results12, go_sem, hc1, hz1, l0, l1, l2]; rfl)) rfl ⟨by first | rfl | (simp_all [comp, Xf.k, Xf.b, Xf.c, encX, add, comp_b]; done) | (simp_all [comp, Xf.k, Xf.b, Xf.c, encX, add, comp_b, Int.add_comm]; done), (by repeat (first | exact Below.refl _ _ | refine Below.setCell ?_ (by first | (simp; done) | (simp; omega) | omega) _ | refine Below.alloc ?_ (by first | (simp; done) | (simp; omega) | omega) _ | (refine bstep (by assumption) ?_ (by first | (simp; done) | (simp; omega) | omega))))⟩
set_option maxHeartbeats 1000000 in
theorem Comp_mt_shf (b1 c1 b2 : Int)  (w : World) : Calls Try.prog 12 #[.agg #[.int .i64 3, .int .i64 b1, .int .i64 c1], .agg #[.int .i64 2, .int .i64 b2, .int .i64 0]] w fun e w' => e = .returned (encX (comp (Xf.mt b1 c1) (Xf.shf b2))) ∧ Below w.heap.size w w' := by
  go_enter Try.func12, Try.ntmps12
  go_wp2_with (go_at_call 28; refine (follow_shf _ _ _).mono ?_; rintro e w1 ⟨rfl, hb⟩; obtain ⟨hc1, hf1⟩ := bcell hb; have hz1 := hb.size; (try simp at hz1); have l0 : w.heap.size < w1.heap.size := (by omega); have l1 : w.heap.size + 1 < w1.heap.size := (by omega); have l2 : w.heap.size + 1 + 1 < w1.heap.size := (by omega))
  all_goals exact bodyPost_ret (by first | (simp [results, Try.results12, go_sem]; done) | (simp [results, Try.results12, go_sem, hc1, hz1, l0, l1, l2]; done) | (simp [results, Try.results12, go_sem]; rfl) | (simp [results, Try.results12, go_sem, hc1, hz1, l0, l1, l2]; rfl)) rfl ⟨by first | rfl | (simp_all [comp, Xf.k, Xf.b, Xf.c, encX, add, comp_b]; done) | (simp_all [comp, Xf.k, Xf.b, Xf.c, encX, add, comp_b, Int.add_comm]; done), (by repeat (first | exact Below.refl _ _ | refine Below.setCell ?_ (by first | (simp; done) | (simp; omega) | omega) _ | refine Below.alloc ?_ (by first | (simp; done) | (simp; omega) | omega) _ | (refine bstep (by assumption) ?_ (by first | (simp; done) | (simp; omega) | omega))))⟩
set_option maxHeartbeats 1000000 in
theorem CompE_mt_mt (b1 c1 b2 c2 : Int) (h : wrap64 (c1 + b2) = c2) (w : World) : Calls Try.prog 12 #[.agg #[.int .i64 3, .int .i64 b1, .int .i64 c1], .agg #[.int .i64 3, .int .i64 b2, .int .i64 c2]] w fun e w' => e = .returned (encX (comp (Xf.mt b1 c1) (Xf.mt b2 c2))) ∧ Below w.heap.size w w' := by
  go_enter Try.func12, Try.ntmps12
  go_wp2_with (go_at_call 28; refine (follow_mt_eq _ _ _ (by assumption) _).mono ?_; rintro e w1 ⟨rfl, hb⟩; obtain ⟨hc1, hf1⟩ := bcell hb; have hz1 := hb.size; (try simp at hz1); have l0 : w.heap.size < w1.heap.size := (by omega); have l1 : w.heap.size + 1 < w1.heap.size := (by omega); have l2 : w.heap.size + 1 + 1 < w1.heap.size := (by omega))
  all_goals exact bodyPost_ret (by first | (simp [results, Try.results12, go_sem]; done) | (simp [results, Try.results12, go_sem, hc1, hz1, l0, l1, l2]; done) | (simp [results, Try.results12, go_sem]; rfl) | (simp [results, Try.results12, go_sem, hc1, hz1, l0, l1, l2]; rfl)) rfl ⟨by first | rfl | (simp_all [comp, Xf.k, Xf.b, Xf.c, encX, add, comp_b, ← h]; done) | (simp_all [comp, Xf.k, Xf.b, Xf.c, encX, add, comp_b, ← h, Int.add_comm]; done), (by repeat (first | exact Below.refl _ _ | refine Below.setCell ?_ (by first | (simp; done) | (simp; omega) | omega) _ | refine Below.alloc ?_ (by first | (simp; done) | (simp; omega) | omega) _ | (refine bstep (by assumption) ?_ (by first | (simp; done) | (simp; omega) | omega))))⟩
set_option maxHeartbeats 1000000 in
theorem CompN_mt_mt (b1 c1 b2 c2 : Int) (h : ¬ wrap64 (c1 + b2) = c2) (w : World) : Calls Try.prog 12 #[.agg #[.int .i64 3, .int .i64 b1, .int .i64 c1], .agg #[.int .i64 3, .int .i64 b2, .int .i64 c2]] w fun e w' => e = .returned (encX (comp (Xf.mt b1 c1) (Xf.mt b2 c2))) ∧ Below w.heap.size w w' := by
  go_enter Try.func12, Try.ntmps12
  go_wp2_with (go_at_call 28; refine (follow_mt_ne _ _ _ (by assumption) _).mono ?_; rintro e w1 ⟨rfl, hb⟩; obtain ⟨hc1, hf1⟩ := bcell hb; have hz1 := hb.size; (try simp at hz1); have l0 : w.heap.size < w1.heap.size := (by omega); have l1 : w.heap.size + 1 < w1.heap.size := (by omega); have l2 : w.heap.size + 1 + 1 < w1.heap.size := (by omega))
  all_goals exact bodyPost_ret (by first | (simp [results, Try.results12, go_sem]; done) | (simp [results, Try.results12, go_sem, hc1, hz1, l0, l1, l2]; done) | (simp [results, Try.results12, go_sem]; rfl) | (simp [results, Try.results12, go_sem, hc1, hz1, l0, l1, l2]; rfl)) rfl ⟨by first | rfl | (simp_all [comp, Xf.k, Xf.b, Xf.c, encX, add, comp_b]; done) | (simp_all [comp, Xf.k, Xf.b, Xf.c, encX, add, comp_b, Int.add_comm]; done), (by repeat (first | exact Below.refl _ _ | refine Below.setCell ?_ (by first | (simp; done) | (simp; omega) | omega) _ | refine Below.alloc ?_ (by first | (simp; done) | (simp; omega) | omega) _ | (refine bstep (by assumption) ?_ (by first | (simp; done) | (simp; omega) | omega))))⟩
set_option maxHeartbeats 1000000 in
theorem Comp_mt_bot (b1 c1 : Int)  (w : World) : Calls Try.prog 12 #[.agg #[.int .i64 3, .int .i64 b1, .int .i64 c1], .agg #[.int .i64 4, .int .i64 0, .int .i64 0]] w fun e w' => e = .returned (encX (comp (Xf.mt b1 c1) (Xf.bot))) ∧ Below w.heap.size w w' := by
  go_enter Try.func12, Try.ntmps12
  go_wp2_with fail
  all_goals exact bodyPost_ret (by first | (simp [results, Try.results12, go_sem]; done) | (simp [results, Try.results12, go_sem, hc1, hz1, l0, l1, l2]; done) | (simp [results, Try.results12, go_sem]; rfl) | (simp [results, Try.results12, go_sem, hc1, hz1, l0, l1, l2]; rfl)) rfl ⟨by first | rfl | (simp_all [comp, Xf.k, Xf.b, Xf.c, encX, add, comp_b]; done) | (simp_all [comp, Xf.k, Xf.b, Xf.c, encX, add, comp_b, Int.add_comm]; done), (by repeat (first | exact Below.refl _ _ | refine Below.setCell ?_ (by first | (simp; done) | (simp; omega) | omega) _ | refine Below.alloc ?_ (by first | (simp; done) | (simp; omega) | omega) _ | (refine bstep (by assumption) ?_ (by first | (simp; done) | (simp; omega) | omega))))⟩
set_option maxHeartbeats 1000000 in
theorem Comp_bot_top   (w : World) : Calls Try.prog 12 #[.agg #[.int .i64 4, .int .i64 0, .int .i64 0], .agg #[.int .i64 0, .int .i64 0, .int .i64 0]] w fun e w' => e = .returned (encX (comp (Xf.bot) (Xf.top))) ∧ Below w.heap.size w w' := by
  go_enter Try.func12, Try.ntmps12
  go_wp2_with fail
  all_goals exact bodyPost_ret (by first | (simp [results, Try.results12, go_sem]; done) | (simp [results, Try.results12, go_sem, hc1, hz1, l0, l1, l2]; done) | (simp [results, Try.results12, go_sem]; rfl) | (simp [results, Try.results12, go_sem, hc1, hz1, l0, l1, l2]; rfl)) rfl ⟨by first | rfl | (simp_all [comp, Xf.k, Xf.b, Xf.c, encX, add, comp_b]; done) | (simp_all [comp, Xf.k, Xf.b, Xf.c, encX, add, comp_b, Int.add_comm]; done), (by repeat (first | exact Below.refl _ _ | refine Below.setCell ?_ (by first | (simp; done) | (simp; omega) | omega) _ | refine Below.alloc ?_ (by first | (simp; done) | (simp; omega) | omega) _ | (refine bstep (by assumption) ?_ (by first | (simp; done) | (simp; omega) | omega))))⟩
set_option maxHeartbeats 1000000 in
theorem Comp_bot_con (c2 : Int)  (w : World) : Calls Try.prog 12 #[.agg #[.int .i64 4, .int .i64 0, .int .i64 0], .agg #[.int .i64 1, .int .i64 0, .int .i64 c2]] w fun e w' => e = .returned (encX (comp (Xf.bot) (Xf.con c2))) ∧ Below w.heap.size w w' := by
  go_enter Try.func12, Try.ntmps12
  go_wp2_with fail
  all_goals exact bodyPost_ret (by first | (simp [results, Try.results12, go_sem]; done) | (simp [results, Try.results12, go_sem, hc1, hz1, l0, l1, l2]; done) | (simp [results, Try.results12, go_sem]; rfl) | (simp [results, Try.results12, go_sem, hc1, hz1, l0, l1, l2]; rfl)) rfl ⟨by first | rfl | (simp_all [comp, Xf.k, Xf.b, Xf.c, encX, add, comp_b]; done) | (simp_all [comp, Xf.k, Xf.b, Xf.c, encX, add, comp_b, Int.add_comm]; done), (by repeat (first | exact Below.refl _ _ | refine Below.setCell ?_ (by first | (simp; done) | (simp; omega) | omega) _ | refine Below.alloc ?_ (by first | (simp; done) | (simp; omega) | omega) _ | (refine bstep (by assumption) ?_ (by first | (simp; done) | (simp; omega) | omega))))⟩
set_option maxHeartbeats 1000000 in
theorem Comp_bot_shf (b2 : Int)  (w : World) : Calls Try.prog 12 #[.agg #[.int .i64 4, .int .i64 0, .int .i64 0], .agg #[.int .i64 2, .int .i64 b2, .int .i64 0]] w fun e w' => e = .returned (encX (comp (Xf.bot) (Xf.shf b2))) ∧ Below w.heap.size w w' := by
  go_enter Try.func12, Try.ntmps12
  go_wp2_with fail
  all_goals exact bodyPost_ret (by first | (simp [results, Try.results12, go_sem]; done) | (simp [results, Try.results12, go_sem, hc1, hz1, l0, l1, l2]; done) | (simp [results, Try.results12, go_sem]; rfl) | (simp [results, Try.results12, go_sem, hc1, hz1, l0, l1, l2]; rfl)) rfl ⟨by first | rfl | (simp_all [comp, Xf.k, Xf.b, Xf.c, encX, add, comp_b]; done) | (simp_all [comp, Xf.k, Xf.b, Xf.c, encX, add, comp_b, Int.add_comm]; done), (by repeat (first | exact Below.refl _ _ | refine Below.setCell ?_ (by first | (simp; done) | (simp; omega) | omega) _ | refine Below.alloc ?_ (by first | (simp; done) | (simp; omega) | omega) _ | (refine bstep (by assumption) ?_ (by first | (simp; done) | (simp; omega) | omega))))⟩
set_option maxHeartbeats 1000000 in
theorem Comp_bot_mt (b2 c2 : Int)  (w : World) : Calls Try.prog 12 #[.agg #[.int .i64 4, .int .i64 0, .int .i64 0], .agg #[.int .i64 3, .int .i64 b2, .int .i64 c2]] w fun e w' => e = .returned (encX (comp (Xf.bot) (Xf.mt b2 c2))) ∧ Below w.heap.size w w' := by
  go_enter Try.func12, Try.ntmps12
  go_wp2_with fail
  all_goals exact bodyPost_ret (by first | (simp [results, Try.results12, go_sem]; done) | (simp [results, Try.results12, go_sem, hc1, hz1, l0, l1, l2]; done) | (simp [results, Try.results12, go_sem]; rfl) | (simp [results, Try.results12, go_sem, hc1, hz1, l0, l1, l2]; rfl)) rfl ⟨by first | rfl | (simp_all [comp, Xf.k, Xf.b, Xf.c, encX, add, comp_b]; done) | (simp_all [comp, Xf.k, Xf.b, Xf.c, encX, add, comp_b, Int.add_comm]; done), (by repeat (first | exact Below.refl _ _ | refine Below.setCell ?_ (by first | (simp; done) | (simp; omega) | omega) _ | refine Below.alloc ?_ (by first | (simp; done) | (simp; omega) | omega) _ | (refine bstep (by assumption) ?_ (by first | (simp; done) | (simp; omega) | omega))))⟩
set_option maxHeartbeats 1000000 in
theorem Comp_bot_bot   (w : World) : Calls Try.prog 12 #[.agg #[.int .i64 4, .int .i64 0, .int .i64 0], .agg #[.int .i64 4, .int .i64 0, .int .i64 0]] w fun e w' => e = .returned (encX (comp (Xf.bot) (Xf.bot))) ∧ Below w.heap.size w w' := by
  go_enter Try.func12, Try.ntmps12
  go_wp2_with fail
  all_goals exact bodyPost_ret (by first | (simp [results, Try.results12, go_sem]; done) | (simp [results, Try.results12, go_sem, hc1, hz1, l0, l1, l2]; done) | (simp [results, Try.results12, go_sem]; rfl) | (simp [results, Try.results12, go_sem, hc1, hz1, l0, l1, l2]; rfl)) rfl ⟨by first | rfl | (simp_all [comp, Xf.k, Xf.b, Xf.c, encX, add, comp_b]; done) | (simp_all [comp, Xf.k, Xf.b, Xf.c, encX, add, comp_b, Int.add_comm]; done), (by repeat (first | exact Below.refl _ _ | refine Below.setCell ?_ (by first | (simp; done) | (simp; omega) | omega) _ | refine Below.alloc ?_ (by first | (simp; done) | (simp; omega) | omega) _ | (refine bstep (by assumption) ?_ (by first | (simp; done) | (simp; omega) | omega))))⟩
set_option maxHeartbeats 1000000 in
theorem Me_top_top   (w : World) : Calls Try.prog 14 #[.agg #[.int .i64 0, .int .i64 0, .int .i64 0], .agg #[.int .i64 0, .int .i64 0, .int .i64 0]] w fun e w' => e = .returned (encX (meet (Xf.top) (Xf.top))) ∧ Below w.heap.size w w' := by
  go_enter Try.func14, Try.ntmps14
  go_wp2_with fail
  all_goals exact bodyPost_ret (by first | (simp [results, Try.results14, go_sem]; done) | (simp [results, Try.results14, go_sem, hc1, hz1, l0, l1, l2]; done) | (simp [results, Try.results14, go_sem]; rfl) | (simp [results, Try.results14, go_sem, hc1, hz1, l0, l1, l2]; rfl)) rfl ⟨by first | rfl | (simp_all [meet, Xf.k, Xf.b, Xf.c, encX]; done) | (simp_all [meet, Xf.k, Xf.b, Xf.c, encX, Int.add_comm]; done), (by repeat (first | exact Below.refl _ _ | refine Below.setCell ?_ (by first | (simp; done) | (simp; omega) | omega) _ | refine Below.alloc ?_ (by first | (simp; done) | (simp; omega) | omega) _ | (refine bstep (by assumption) ?_ (by first | (simp; done) | (simp; omega) | omega))))⟩
set_option maxHeartbeats 1000000 in
theorem Me_top_con (c2 : Int)  (w : World) : Calls Try.prog 14 #[.agg #[.int .i64 0, .int .i64 0, .int .i64 0], .agg #[.int .i64 1, .int .i64 0, .int .i64 c2]] w fun e w' => e = .returned (encX (meet (Xf.top) (Xf.con c2))) ∧ Below w.heap.size w w' := by
  go_enter Try.func14, Try.ntmps14
  go_wp2_with fail
  all_goals exact bodyPost_ret (by first | (simp [results, Try.results14, go_sem]; done) | (simp [results, Try.results14, go_sem, hc1, hz1, l0, l1, l2]; done) | (simp [results, Try.results14, go_sem]; rfl) | (simp [results, Try.results14, go_sem, hc1, hz1, l0, l1, l2]; rfl)) rfl ⟨by first | rfl | (simp_all [meet, Xf.k, Xf.b, Xf.c, encX]; done) | (simp_all [meet, Xf.k, Xf.b, Xf.c, encX, Int.add_comm]; done), (by repeat (first | exact Below.refl _ _ | refine Below.setCell ?_ (by first | (simp; done) | (simp; omega) | omega) _ | refine Below.alloc ?_ (by first | (simp; done) | (simp; omega) | omega) _ | (refine bstep (by assumption) ?_ (by first | (simp; done) | (simp; omega) | omega))))⟩
set_option maxHeartbeats 1000000 in
theorem Me_top_shf (b2 : Int)  (w : World) : Calls Try.prog 14 #[.agg #[.int .i64 0, .int .i64 0, .int .i64 0], .agg #[.int .i64 2, .int .i64 b2, .int .i64 0]] w fun e w' => e = .returned (encX (meet (Xf.top) (Xf.shf b2))) ∧ Below w.heap.size w w' := by
  go_enter Try.func14, Try.ntmps14
  go_wp2_with fail
  all_goals exact bodyPost_ret (by first | (simp [results, Try.results14, go_sem]; done) | (simp [results, Try.results14, go_sem, hc1, hz1, l0, l1, l2]; done) | (simp [results, Try.results14, go_sem]; rfl) | (simp [results, Try.results14, go_sem, hc1, hz1, l0, l1, l2]; rfl)) rfl ⟨by first | rfl | (simp_all [meet, Xf.k, Xf.b, Xf.c, encX]; done) | (simp_all [meet, Xf.k, Xf.b, Xf.c, encX, Int.add_comm]; done), (by repeat (first | exact Below.refl _ _ | refine Below.setCell ?_ (by first | (simp; done) | (simp; omega) | omega) _ | refine Below.alloc ?_ (by first | (simp; done) | (simp; omega) | omega) _ | (refine bstep (by assumption) ?_ (by first | (simp; done) | (simp; omega) | omega))))⟩
set_option maxHeartbeats 1000000 in
theorem Me_top_mt (b2 c2 : Int)  (w : World) : Calls Try.prog 14 #[.agg #[.int .i64 0, .int .i64 0, .int .i64 0], .agg #[.int .i64 3, .int .i64 b2, .int .i64 c2]] w fun e w' => e = .returned (encX (meet (Xf.top) (Xf.mt b2 c2))) ∧ Below w.heap.size w w' := by
  go_enter Try.func14, Try.ntmps14
  go_wp2_with fail
  all_goals exact bodyPost_ret (by first | (simp [results, Try.results14, go_sem]; done) | (simp [results, Try.results14, go_sem, hc1, hz1, l0, l1, l2]; done) | (simp [results, Try.results14, go_sem]; rfl) | (simp [results, Try.results14, go_sem, hc1, hz1, l0, l1, l2]; rfl)) rfl ⟨by first | rfl | (simp_all [meet, Xf.k, Xf.b, Xf.c, encX]; done) | (simp_all [meet, Xf.k, Xf.b, Xf.c, encX, Int.add_comm]; done), (by repeat (first | exact Below.refl _ _ | refine Below.setCell ?_ (by first | (simp; done) | (simp; omega) | omega) _ | refine Below.alloc ?_ (by first | (simp; done) | (simp; omega) | omega) _ | (refine bstep (by assumption) ?_ (by first | (simp; done) | (simp; omega) | omega))))⟩
set_option maxHeartbeats 1000000 in
theorem Me_top_bot   (w : World) : Calls Try.prog 14 #[.agg #[.int .i64 0, .int .i64 0, .int .i64 0], .agg #[.int .i64 4, .int .i64 0, .int .i64 0]] w fun e w' => e = .returned (encX (meet (Xf.top) (Xf.bot))) ∧ Below w.heap.size w w' := by
  go_enter Try.func14, Try.ntmps14
  go_wp2_with fail
  all_goals exact bodyPost_ret (by first | (simp [results, Try.results14, go_sem]; done) | (simp [results, Try.results14, go_sem, hc1, hz1, l0, l1, l2]; done) | (simp [results, Try.results14, go_sem]; rfl) | (simp [results, Try.results14, go_sem, hc1, hz1, l0, l1, l2]; rfl)) rfl ⟨by first | rfl | (simp_all [meet, Xf.k, Xf.b, Xf.c, encX]; done) | (simp_all [meet, Xf.k, Xf.b, Xf.c, encX, Int.add_comm]; done), (by repeat (first | exact Below.refl _ _ | refine Below.setCell ?_ (by first | (simp; done) | (simp; omega) | omega) _ | refine Below.alloc ?_ (by first | (simp; done) | (simp; omega) | omega) _ | (refine bstep (by assumption) ?_ (by first | (simp; done) | (simp; omega) | omega))))⟩
set_option maxHeartbeats 1000000 in
theorem Me_con_top (c1 : Int)  (w : World) : Calls Try.prog 14 #[.agg #[.int .i64 1, .int .i64 0, .int .i64 c1], .agg #[.int .i64 0, .int .i64 0, .int .i64 0]] w fun e w' => e = .returned (encX (meet (Xf.con c1) (Xf.top))) ∧ Below w.heap.size w w' := by
  go_enter Try.func14, Try.ntmps14
  go_wp2_with fail
  all_goals exact bodyPost_ret (by first | (simp [results, Try.results14, go_sem]; done) | (simp [results, Try.results14, go_sem, hc1, hz1, l0, l1, l2]; done) | (simp [results, Try.results14, go_sem]; rfl) | (simp [results, Try.results14, go_sem, hc1, hz1, l0, l1, l2]; rfl)) rfl ⟨by first | rfl | (simp_all [meet, Xf.k, Xf.b, Xf.c, encX]; done) | (simp_all [meet, Xf.k, Xf.b, Xf.c, encX, Int.add_comm]; done), (by repeat (first | exact Below.refl _ _ | refine Below.setCell ?_ (by first | (simp; done) | (simp; omega) | omega) _ | refine Below.alloc ?_ (by first | (simp; done) | (simp; omega) | omega) _ | (refine bstep (by assumption) ?_ (by first | (simp; done) | (simp; omega) | omega))))⟩
set_option maxHeartbeats 1000000 in
theorem Me_con_con (c1 c2 : Int)  (w : World) : Calls Try.prog 14 #[.agg #[.int .i64 1, .int .i64 0, .int .i64 c1], .agg #[.int .i64 1, .int .i64 0, .int .i64 c2]] w fun e w' => e = .returned (encX (meet (Xf.con c1) (Xf.con c2))) ∧ Below w.heap.size w w' := by
  go_enter Try.func14, Try.ntmps14
  go_wp2_with fail
  all_goals exact bodyPost_ret (by first | (simp [results, Try.results14, go_sem]; done) | (simp [results, Try.results14, go_sem, hc1, hz1, l0, l1, l2]; done) | (simp [results, Try.results14, go_sem]; rfl) | (simp [results, Try.results14, go_sem, hc1, hz1, l0, l1, l2]; rfl)) rfl ⟨by first | rfl | (simp_all [meet, Xf.k, Xf.b, Xf.c, encX]; done) | (simp_all [meet, Xf.k, Xf.b, Xf.c, encX, Int.add_comm]; done), (by repeat (first | exact Below.refl _ _ | refine Below.setCell ?_ (by first | (simp; done) | (simp; omega) | omega) _ | refine Below.alloc ?_ (by first | (simp; done) | (simp; omega) | omega) _ | (refine bstep (by assumption) ?_ (by first | (simp; done) | (simp; omega) | omega))))⟩
set_option maxHeartbeats 1000000 in
theorem Me_con_shf (c1 b2 : Int)  (w : World) : Calls Try.prog 14 #[.agg #[.int .i64 1, .int .i64 0, .int .i64 c1], .agg #[.int .i64 2, .int .i64 b2, .int .i64 0]] w fun e w' => e = .returned (encX (meet (Xf.con c1) (Xf.shf b2))) ∧ Below w.heap.size w w' := by
  go_enter Try.func14, Try.ntmps14
  go_wp2_with fail
  all_goals exact bodyPost_ret (by first | (simp [results, Try.results14, go_sem]; done) | (simp [results, Try.results14, go_sem, hc1, hz1, l0, l1, l2]; done) | (simp [results, Try.results14, go_sem]; rfl) | (simp [results, Try.results14, go_sem, hc1, hz1, l0, l1, l2]; rfl)) rfl ⟨by first | rfl | (simp_all [meet, Xf.k, Xf.b, Xf.c, encX]; done) | (simp_all [meet, Xf.k, Xf.b, Xf.c, encX, Int.add_comm]; done), (by repeat (first | exact Below.refl _ _ | refine Below.setCell ?_ (by first | (simp; done) | (simp; omega) | omega) _ | refine Below.alloc ?_ (by first | (simp; done) | (simp; omega) | omega) _ | (refine bstep (by assumption) ?_ (by first | (simp; done) | (simp; omega) | omega))))⟩
set_option maxHeartbeats 1000000 in
theorem Me_con_mt (c1 b2 c2 : Int)  (w : World) : Calls Try.prog 14 #[.agg #[.int .i64 1, .int .i64 0, .int .i64 c1], .agg #[.int .i64 3, .int .i64 b2, .int .i64 c2]] w fun e w' => e = .returned (encX (meet (Xf.con c1) (Xf.mt b2 c2))) ∧ Below w.heap.size w w' := by
  go_enter Try.func14, Try.ntmps14
  go_wp2_with fail
  all_goals exact bodyPost_ret (by first | (simp [results, Try.results14, go_sem]; done) | (simp [results, Try.results14, go_sem, hc1, hz1, l0, l1, l2]; done) | (simp [results, Try.results14, go_sem]; rfl) | (simp [results, Try.results14, go_sem, hc1, hz1, l0, l1, l2]; rfl)) rfl ⟨by first | rfl | (simp_all [meet, Xf.k, Xf.b, Xf.c, encX]; done) | (simp_all [meet, Xf.k, Xf.b, Xf.c, encX, Int.add_comm]; done), (by repeat (first | exact Below.refl _ _ | refine Below.setCell ?_ (by first | (simp; done) | (simp; omega) | omega) _ | refine Below.alloc ?_ (by first | (simp; done) | (simp; omega) | omega) _ | (refine bstep (by assumption) ?_ (by first | (simp; done) | (simp; omega) | omega))))⟩
set_option maxHeartbeats 1000000 in
theorem Me_con_bot (c1 : Int)  (w : World) : Calls Try.prog 14 #[.agg #[.int .i64 1, .int .i64 0, .int .i64 c1], .agg #[.int .i64 4, .int .i64 0, .int .i64 0]] w fun e w' => e = .returned (encX (meet (Xf.con c1) (Xf.bot))) ∧ Below w.heap.size w w' := by
  go_enter Try.func14, Try.ntmps14
  go_wp2_with fail
  all_goals exact bodyPost_ret (by first | (simp [results, Try.results14, go_sem]; done) | (simp [results, Try.results14, go_sem, hc1, hz1, l0, l1, l2]; done) | (simp [results, Try.results14, go_sem]; rfl) | (simp [results, Try.results14, go_sem, hc1, hz1, l0, l1, l2]; rfl)) rfl ⟨by first | rfl | (simp_all [meet, Xf.k, Xf.b, Xf.c, encX]; done) | (simp_all [meet, Xf.k, Xf.b, Xf.c, encX, Int.add_comm]; done), (by repeat (first | exact Below.refl _ _ | refine Below.setCell ?_ (by first | (simp; done) | (simp; omega) | omega) _ | refine Below.alloc ?_ (by first | (simp; done) | (simp; omega) | omega) _ | (refine bstep (by assumption) ?_ (by first | (simp; done) | (simp; omega) | omega))))⟩
set_option maxHeartbeats 1000000 in
theorem Me_shf_top (b1 : Int)  (w : World) : Calls Try.prog 14 #[.agg #[.int .i64 2, .int .i64 b1, .int .i64 0], .agg #[.int .i64 0, .int .i64 0, .int .i64 0]] w fun e w' => e = .returned (encX (meet (Xf.shf b1) (Xf.top))) ∧ Below w.heap.size w w' := by
  go_enter Try.func14, Try.ntmps14
  go_wp2_with fail
  all_goals exact bodyPost_ret (by first | (simp [results, Try.results14, go_sem]; done) | (simp [results, Try.results14, go_sem, hc1, hz1, l0, l1, l2]; done) | (simp [results, Try.results14, go_sem]; rfl) | (simp [results, Try.results14, go_sem, hc1, hz1, l0, l1, l2]; rfl)) rfl ⟨by first | rfl | (simp_all [meet, Xf.k, Xf.b, Xf.c, encX]; done) | (simp_all [meet, Xf.k, Xf.b, Xf.c, encX, Int.add_comm]; done), (by repeat (first | exact Below.refl _ _ | refine Below.setCell ?_ (by first | (simp; done) | (simp; omega) | omega) _ | refine Below.alloc ?_ (by first | (simp; done) | (simp; omega) | omega) _ | (refine bstep (by assumption) ?_ (by first | (simp; done) | (simp; omega) | omega))))⟩
set_option maxHeartbeats 1000000 in
theorem Me_shf_con (b1 c2 : Int)  (w : World) : Calls Try.prog 14 #[.agg #[.int .i64 2, .int .i64 b1, .int .i64 0], .agg #[.int .i64 1, .int .i64 0, .int .i64 c2]] w fun e w' => e = .returned (encX (meet (Xf.shf b1) (Xf.con c2))) ∧ Below w.heap.size w w' := by
  go_enter Try.func14, Try.ntmps14
  go_wp2_with fail
  all_goals exact bodyPost_ret (by first | (simp [results, Try.results14, go_sem]; done) | (simp [results, Try.results14, go_sem, hc1, hz1, l0, l1, l2]; done) | (simp [results, Try.results14, go_sem]; rfl) | (simp [results, Try.results14, go_sem, hc1, hz1, l0, l1, l2]; rfl)) rfl ⟨by first | rfl | (simp_all [meet, Xf.k, Xf.b, Xf.c, encX]; done) | (simp_all [meet, Xf.k, Xf.b, Xf.c, encX, Int.add_comm]; done), (by repeat (first | exact Below.refl _ _ | refine Below.setCell ?_ (by first | (simp; done) | (simp; omega) | omega) _ | refine Below.alloc ?_ (by first | (simp; done) | (simp; omega) | omega) _ | (refine bstep (by assumption) ?_ (by first | (simp; done) | (simp; omega) | omega))))⟩
set_option maxHeartbeats 1000000 in
theorem Me_shf_shf (b1 b2 : Int)  (w : World) : Calls Try.prog 14 #[.agg #[.int .i64 2, .int .i64 b1, .int .i64 0], .agg #[.int .i64 2, .int .i64 b2, .int .i64 0]] w fun e w' => e = .returned (encX (meet (Xf.shf b1) (Xf.shf b2))) ∧ Below w.heap.size w w' := by
  go_enter Try.func14, Try.ntmps14
  go_wp2_with fail
  all_goals exact bodyPost_ret (by first | (simp [results, Try.results14, go_sem]; done) | (simp [results, Try.results14, go_sem, hc1, hz1, l0, l1, l2]; done) | (simp [results, Try.results14, go_sem]; rfl) | (simp [results, Try.results14, go_sem, hc1, hz1, l0, l1, l2]; rfl)) rfl ⟨by first | rfl | (simp_all [meet, Xf.k, Xf.b, Xf.c, encX]; done) | (simp_all [meet, Xf.k, Xf.b, Xf.c, encX, Int.add_comm]; done), (by repeat (first | exact Below.refl _ _ | refine Below.setCell ?_ (by first | (simp; done) | (simp; omega) | omega) _ | refine Below.alloc ?_ (by first | (simp; done) | (simp; omega) | omega) _ | (refine bstep (by assumption) ?_ (by first | (simp; done) | (simp; omega) | omega))))⟩
set_option maxHeartbeats 1000000 in
theorem Me_shf_mt (b1 b2 c2 : Int)  (w : World) : Calls Try.prog 14 #[.agg #[.int .i64 2, .int .i64 b1, .int .i64 0], .agg #[.int .i64 3, .int .i64 b2, .int .i64 c2]] w fun e w' => e = .returned (encX (meet (Xf.shf b1) (Xf.mt b2 c2))) ∧ Below w.heap.size w w' := by
  go_enter Try.func14, Try.ntmps14
  go_wp2_with fail
  all_goals exact bodyPost_ret (by first | (simp [results, Try.results14, go_sem]; done) | (simp [results, Try.results14, go_sem, hc1, hz1, l0, l1, l2]; done) | (simp [results, Try.results14, go_sem]; rfl) | (simp [results, Try.results14, go_sem, hc1, hz1, l0, l1, l2]; rfl)) rfl ⟨by first | rfl | (simp_all [meet, Xf.k, Xf.b, Xf.c, encX]; done) | (simp_all [meet, Xf.k, Xf.b, Xf.c, encX, Int.add_comm]; done), (by repeat (first | exact Below.refl _ _ | refine Below.setCell ?_ (by first | (simp; done) | (simp; omega) | omega) _ | refine Below.alloc ?_ (by first | (simp; done) | (simp; omega) | omega) _ | (refine bstep (by assumption) ?_ (by first | (simp; done) | (simp; omega) | omega))))⟩
set_option maxHeartbeats 1000000 in
theorem Me_shf_bot (b1 : Int)  (w : World) : Calls Try.prog 14 #[.agg #[.int .i64 2, .int .i64 b1, .int .i64 0], .agg #[.int .i64 4, .int .i64 0, .int .i64 0]] w fun e w' => e = .returned (encX (meet (Xf.shf b1) (Xf.bot))) ∧ Below w.heap.size w w' := by
  go_enter Try.func14, Try.ntmps14
  go_wp2_with fail
  all_goals exact bodyPost_ret (by first | (simp [results, Try.results14, go_sem]; done) | (simp [results, Try.results14, go_sem, hc1, hz1, l0, l1, l2]; done) | (simp [results, Try.results14, go_sem]; rfl) | (simp [results, Try.results14, go_sem, hc1, hz1, l0, l1, l2]; rfl)) rfl ⟨by first | rfl | (simp_all [meet, Xf.k, Xf.b, Xf.c, encX]; done) | (simp_all [meet, Xf.k, Xf.b, Xf.c, encX, Int.add_comm]; done), (by repeat (first | exact Below.refl _ _ | refine Below.setCell ?_ (by first | (simp; done) | (simp; omega) | omega) _ | refine Below.alloc ?_ (by first | (simp; done) | (simp; omega) | omega) _ | (refine bstep (by assumption) ?_ (by first | (simp; done) | (simp; omega) | omega))))⟩
set_option maxHeartbeats 1000000 in
theorem Me_mt_top (b1 c1 : Int)  (w : World) : Calls Try.prog 14 #[.agg #[.int .i64 3, .int .i64 b1, .int .i64 c1], .agg #[.int .i64 0, .int .i64 0, .int .i64 0]] w fun e w' => e = .returned (encX (meet (Xf.mt b1 c1) (Xf.top))) ∧ Below w.heap.size w w' := by
  go_enter Try.func14, Try.ntmps14
  go_wp2_with fail
  all_goals exact bodyPost_ret (by first | (simp [results, Try.results14, go_sem]; done) | (simp [results, Try.results14, go_sem, hc1, hz1, l0, l1, l2]; done) | (simp [results, Try.results14, go_sem]; rfl) | (simp [results, Try.results14, go_sem, hc1, hz1, l0, l1, l2]; rfl)) rfl ⟨by first | rfl | (simp_all [meet, Xf.k, Xf.b, Xf.c, encX]; done) | (simp_all [meet, Xf.k, Xf.b, Xf.c, encX, Int.add_comm]; done), (by repeat (first | exact Below.refl _ _ | refine Below.setCell ?_ (by first | (simp; done) | (simp; omega) | omega) _ | refine Below.alloc ?_ (by first | (simp; done) | (simp; omega) | omega) _ | (refine bstep (by assumption) ?_ (by first | (simp; done) | (simp; omega) | omega))))⟩
set_option maxHeartbeats 1000000 in
theorem Me_mt_con (b1 c1 c2 : Int)  (w : World) : Calls Try.prog 14 #[.agg #[.int .i64 3, .int .i64 b1, .int .i64 c1], .agg #[.int .i64 1, .int .i64 0, .int .i64 c2]] w fun e w' => e = .returned (encX (meet (Xf.mt b1 c1) (Xf.con c2))) ∧ Below w.heap.size w w' := by
  go_enter Try.func14, Try.ntmps14
  go_wp2_with fail
  all_goals exact bodyPost_ret (by first | (simp [results, Try.results14, go_sem]; done) | (simp [results, Try.results14, go_sem, hc1, hz1, l0, l1, l2]; done) | (simp [results, Try.results14, go_sem]; rfl) | (simp [results, Try.results14, go_sem, hc1, hz1, l0, l1, l2]; rfl)) rfl ⟨by first | rfl | (simp_all [meet, Xf.k, Xf.b, Xf.c, encX]; done) | (simp_all [meet, Xf.k, Xf.b, Xf.c, encX, Int.add_comm]; done), (by repeat (first | exact Below.refl _ _ | refine Below.setCell ?_ (by first | (simp; done) | (simp; omega) | omega) _ | refine Below.alloc ?_ (by first | (simp; done) | (simp; omega) | omega) _ | (refine bstep (by assumption) ?_ (by first | (simp; done) | (simp; omega) | omega))))⟩
set_option maxHeartbeats 1000000 in
theorem Me_mt_shf (b1 c1 b2 : Int)  (w : World) : Calls Try.prog 14 #[.agg #[.int .i64 3, .int .i64 b1, .int .i64 c1], .agg #[.int .i64 2, .int .i64 b2, .int .i64 0]] w fun e w' => e = .returned (encX (meet (Xf.mt b1 c1) (Xf.shf b2))) ∧ Below w.heap.size w w' := by
  go_enter Try.func14, Try.ntmps14
  go_wp2_with fail
  all_goals exact bodyPost_ret (by first | (simp [results, Try.results14, go_sem]; done) | (simp [results, Try.results14, go_sem, hc1, hz1, l0, l1, l2]; done) | (simp [results, Try.results14, go_sem]; rfl) | (simp [results, Try.results14, go_sem, hc1, hz1, l0, l1, l2]; rfl)) rfl ⟨by first | rfl | (simp_all [meet, Xf.k, Xf.b, Xf.c, encX]; done) | (simp_all [meet, Xf.k, Xf.b, Xf.c, encX, Int.add_comm]; done), (by repeat (first | exact Below.refl _ _ | refine Below.setCell ?_ (by first | (simp; done) | (simp; omega) | omega) _ | refine Below.alloc ?_ (by first | (simp; done) | (simp; omega) | omega) _ | (refine bstep (by assumption) ?_ (by first | (simp; done) | (simp; omega) | omega))))⟩
set_option maxHeartbeats 1000000 in
theorem MeN_mt_mt (b1 c1 b2 c2 : Int) (h : (b1 == b2 && (c1 == c2)) = false) (w : World) : Calls Try.prog 14 #[.agg #[.int .i64 3, .int .i64 b1, .int .i64 c1], .agg #[.int .i64 3, .int .i64 b2, .int .i64 c2]] w fun e w' => e = .returned (encX (meet (Xf.mt b1 c1) (Xf.mt b2 c2))) ∧ Below w.heap.size w w' := by
  have hb12 : ¬ (b1 = b2 ∧ c1 = c2) := by simpa using h
  have HE : encX (meet (Xf.mt b1 c1) (Xf.mt b2 c2)) = .agg #[.int .i64 4, .int .i64 0, .int .i64 0] := by simp [meet, hb12, encX, Xf.k, Xf.b, Xf.c]
  rw [HE]
  clear HE hb12
  go_enter Try.func14, Try.ntmps14
  go_wp2_with fail
  all_goals exact bodyPost_ret (by first | (simp [results, Try.results14, go_sem]; done) | (simp [results, Try.results14, go_sem, hc1, hz1, l0, l1, l2]; done) | (simp [results, Try.results14, go_sem]; rfl) | (simp [results, Try.results14, go_sem, hc1, hz1, l0, l1, l2]; rfl)) rfl ⟨by first | rfl | (simp_all [meet, Xf.k, Xf.b, Xf.c, encX]; done) | (simp_all [meet, Xf.k, Xf.b, Xf.c, encX, Int.add_comm]; done), (by repeat (first | exact Below.refl _ _ | refine Below.setCell ?_ (by first | (simp; done) | (simp; omega) | omega) _ | refine Below.alloc ?_ (by first | (simp; done) | (simp; omega) | omega) _ | (refine bstep (by assumption) ?_ (by first | (simp; done) | (simp; omega) | omega))))⟩
set_option maxHeartbeats 1000000 in
theorem MeE_mt_mt (b1 c1 : Int) (w : World) : Calls Try.prog 14 #[.agg #[.int .i64 3, .int .i64 b1, .int .i64 c1], .agg #[.int .i64 3, .int .i64 b1, .int .i64 c1]] w fun e w' => e = .returned (encX (meet (Xf.mt b1 c1) (Xf.mt b1 c1))) ∧ Below w.heap.size w w' := by
  go_enter Try.func14, Try.ntmps14
  go_wp2_with fail
  all_goals exact bodyPost_ret (by first | (simp [results, Try.results14, go_sem]; done) | (simp [results, Try.results14, go_sem, hc1, hz1, l0, l1, l2]; done) | (simp [results, Try.results14, go_sem]; rfl) | (simp [results, Try.results14, go_sem, hc1, hz1, l0, l1, l2]; rfl)) rfl ⟨by first | rfl | (simp_all [meet, Xf.k, Xf.b, Xf.c, encX]; done) | (simp_all [meet, Xf.k, Xf.b, Xf.c, encX, Int.add_comm]; done), (by repeat (first | exact Below.refl _ _ | refine Below.setCell ?_ (by first | (simp; done) | (simp; omega) | omega) _ | refine Below.alloc ?_ (by first | (simp; done) | (simp; omega) | omega) _ | (refine bstep (by assumption) ?_ (by first | (simp; done) | (simp; omega) | omega))))⟩
theorem Me_mt_mt (b1 c1 b2 c2 : Int) (w : World) : Calls Try.prog 14 #[.agg #[.int .i64 3, .int .i64 b1, .int .i64 c1], .agg #[.int .i64 3, .int .i64 b2, .int .i64 c2]] w fun e w' => e = .returned (encX (meet (Xf.mt b1 c1) (Xf.mt b2 c2))) ∧ Below w.heap.size w w' := by
  cases h : (b1 == b2 && (c1 == c2)) with
  | true =>
    obtain ⟨rfl, rfl⟩ : b1 = b2 ∧ c1 = c2 := by simpa using h
    exact MeE_mt_mt _ _ _
  | false => exact MeN_mt_mt _ _ _ _ h _
set_option maxHeartbeats 1000000 in
theorem Me_mt_bot (b1 c1 : Int)  (w : World) : Calls Try.prog 14 #[.agg #[.int .i64 3, .int .i64 b1, .int .i64 c1], .agg #[.int .i64 4, .int .i64 0, .int .i64 0]] w fun e w' => e = .returned (encX (meet (Xf.mt b1 c1) (Xf.bot))) ∧ Below w.heap.size w w' := by
  go_enter Try.func14, Try.ntmps14
  go_wp2_with fail
  all_goals exact bodyPost_ret (by first | (simp [results, Try.results14, go_sem]; done) | (simp [results, Try.results14, go_sem, hc1, hz1, l0, l1, l2]; done) | (simp [results, Try.results14, go_sem]; rfl) | (simp [results, Try.results14, go_sem, hc1, hz1, l0, l1, l2]; rfl)) rfl ⟨by first | rfl | (simp_all [meet, Xf.k, Xf.b, Xf.c, encX]; done) | (simp_all [meet, Xf.k, Xf.b, Xf.c, encX, Int.add_comm]; done), (by repeat (first | exact Below.refl _ _ | refine Below.setCell ?_ (by first | (simp; done) | (simp; omega) | omega) _ | refine Below.alloc ?_ (by first | (simp; done) | (simp; omega) | omega) _ | (refine bstep (by assumption) ?_ (by first | (simp; done) | (simp; omega) | omega))))⟩
set_option maxHeartbeats 1000000 in
theorem Me_bot_top   (w : World) : Calls Try.prog 14 #[.agg #[.int .i64 4, .int .i64 0, .int .i64 0], .agg #[.int .i64 0, .int .i64 0, .int .i64 0]] w fun e w' => e = .returned (encX (meet (Xf.bot) (Xf.top))) ∧ Below w.heap.size w w' := by
  go_enter Try.func14, Try.ntmps14
  go_wp2_with fail
  all_goals exact bodyPost_ret (by first | (simp [results, Try.results14, go_sem]; done) | (simp [results, Try.results14, go_sem, hc1, hz1, l0, l1, l2]; done) | (simp [results, Try.results14, go_sem]; rfl) | (simp [results, Try.results14, go_sem, hc1, hz1, l0, l1, l2]; rfl)) rfl ⟨by first | rfl | (simp_all [meet, Xf.k, Xf.b, Xf.c, encX]; done) | (simp_all [meet, Xf.k, Xf.b, Xf.c, encX, Int.add_comm]; done), (by repeat (first | exact Below.refl _ _ | refine Below.setCell ?_ (by first | (simp; done) | (simp; omega) | omega) _ | refine Below.alloc ?_ (by first | (simp; done) | (simp; omega) | omega) _ | (refine bstep (by assumption) ?_ (by first | (simp; done) | (simp; omega) | omega))))⟩
set_option maxHeartbeats 1000000 in
theorem Me_bot_con (c2 : Int)  (w : World) : Calls Try.prog 14 #[.agg #[.int .i64 4, .int .i64 0, .int .i64 0], .agg #[.int .i64 1, .int .i64 0, .int .i64 c2]] w fun e w' => e = .returned (encX (meet (Xf.bot) (Xf.con c2))) ∧ Below w.heap.size w w' := by
  go_enter Try.func14, Try.ntmps14
  go_wp2_with fail
  all_goals exact bodyPost_ret (by first | (simp [results, Try.results14, go_sem]; done) | (simp [results, Try.results14, go_sem, hc1, hz1, l0, l1, l2]; done) | (simp [results, Try.results14, go_sem]; rfl) | (simp [results, Try.results14, go_sem, hc1, hz1, l0, l1, l2]; rfl)) rfl ⟨by first | rfl | (simp_all [meet, Xf.k, Xf.b, Xf.c, encX]; done) | (simp_all [meet, Xf.k, Xf.b, Xf.c, encX, Int.add_comm]; done), (by repeat (first | exact Below.refl _ _ | refine Below.setCell ?_ (by first | (simp; done) | (simp; omega) | omega) _ | refine Below.alloc ?_ (by first | (simp; done) | (simp; omega) | omega) _ | (refine bstep (by assumption) ?_ (by first | (simp; done) | (simp; omega) | omega))))⟩
set_option maxHeartbeats 1000000 in
theorem Me_bot_shf (b2 : Int)  (w : World) : Calls Try.prog 14 #[.agg #[.int .i64 4, .int .i64 0, .int .i64 0], .agg #[.int .i64 2, .int .i64 b2, .int .i64 0]] w fun e w' => e = .returned (encX (meet (Xf.bot) (Xf.shf b2))) ∧ Below w.heap.size w w' := by
  go_enter Try.func14, Try.ntmps14
  go_wp2_with fail
  all_goals exact bodyPost_ret (by first | (simp [results, Try.results14, go_sem]; done) | (simp [results, Try.results14, go_sem, hc1, hz1, l0, l1, l2]; done) | (simp [results, Try.results14, go_sem]; rfl) | (simp [results, Try.results14, go_sem, hc1, hz1, l0, l1, l2]; rfl)) rfl ⟨by first | rfl | (simp_all [meet, Xf.k, Xf.b, Xf.c, encX]; done) | (simp_all [meet, Xf.k, Xf.b, Xf.c, encX, Int.add_comm]; done), (by repeat (first | exact Below.refl _ _ | refine Below.setCell ?_ (by first | (simp; done) | (simp; omega) | omega) _ | refine Below.alloc ?_ (by first | (simp; done) | (simp; omega) | omega) _ | (refine bstep (by assumption) ?_ (by first | (simp; done) | (simp; omega) | omega))))⟩
set_option maxHeartbeats 1000000 in
theorem Me_bot_mt (b2 c2 : Int)  (w : World) : Calls Try.prog 14 #[.agg #[.int .i64 4, .int .i64 0, .int .i64 0], .agg #[.int .i64 3, .int .i64 b2, .int .i64 c2]] w fun e w' => e = .returned (encX (meet (Xf.bot) (Xf.mt b2 c2))) ∧ Below w.heap.size w w' := by
  go_enter Try.func14, Try.ntmps14
  go_wp2_with fail
  all_goals exact bodyPost_ret (by first | (simp [results, Try.results14, go_sem]; done) | (simp [results, Try.results14, go_sem, hc1, hz1, l0, l1, l2]; done) | (simp [results, Try.results14, go_sem]; rfl) | (simp [results, Try.results14, go_sem, hc1, hz1, l0, l1, l2]; rfl)) rfl ⟨by first | rfl | (simp_all [meet, Xf.k, Xf.b, Xf.c, encX]; done) | (simp_all [meet, Xf.k, Xf.b, Xf.c, encX, Int.add_comm]; done), (by repeat (first | exact Below.refl _ _ | refine Below.setCell ?_ (by first | (simp; done) | (simp; omega) | omega) _ | refine Below.alloc ?_ (by first | (simp; done) | (simp; omega) | omega) _ | (refine bstep (by assumption) ?_ (by first | (simp; done) | (simp; omega) | omega))))⟩
set_option maxHeartbeats 1000000 in
theorem Me_bot_bot   (w : World) : Calls Try.prog 14 #[.agg #[.int .i64 4, .int .i64 0, .int .i64 0], .agg #[.int .i64 4, .int .i64 0, .int .i64 0]] w fun e w' => e = .returned (encX (meet (Xf.bot) (Xf.bot))) ∧ Below w.heap.size w w' := by
  go_enter Try.func14, Try.ntmps14
  go_wp2_with fail
  all_goals exact bodyPost_ret (by first | (simp [results, Try.results14, go_sem]; done) | (simp [results, Try.results14, go_sem, hc1, hz1, l0, l1, l2]; done) | (simp [results, Try.results14, go_sem]; rfl) | (simp [results, Try.results14, go_sem, hc1, hz1, l0, l1, l2]; rfl)) rfl ⟨by first | rfl | (simp_all [meet, Xf.k, Xf.b, Xf.c, encX]; done) | (simp_all [meet, Xf.k, Xf.b, Xf.c, encX, Int.add_comm]; done), (by repeat (first | exact Below.refl _ _ | refine Below.setCell ?_ (by first | (simp; done) | (simp; omega) | omega) _ | refine Below.alloc ?_ (by first | (simp; done) | (simp; omega) | omega) _ | (refine bstep (by assumption) ?_ (by first | (simp; done) | (simp; omega) | omega))))⟩
theorem CompX (x y : Xf) (w : World) : Calls Try.prog 12 #[encX x, encX y] w fun e w' => e = .returned (encX (comp x y)) ∧ Below w.heap.size w w' := by
  cases x <;> cases y
  · exact Comp_top_top w
  · exact Comp_top_con _ w
  · exact Comp_top_shf _ w
  · exact Comp_top_mt _ _ w
  · exact Comp_top_bot w
  · exact Comp_con_top _ w
  · exact Comp_con_con _ _ w
  · exact Comp_con_shf _ _ w
  · rename_i c1 b2 c2
    by_cases h : wrap64 (c1 + b2) = c2
    · exact CompE_con_mt _ _ _ h w
    · exact CompN_con_mt _ _ _ h w
  · exact Comp_con_bot _ w
  · exact Comp_shf_top _ w
  · exact Comp_shf_con _ _ w
  · exact Comp_shf_shf _ _ w
  · exact Comp_shf_mt _ _ _ w
  · exact Comp_shf_bot _ w
  · exact Comp_mt_top _ _ w
  · exact Comp_mt_con _ _ _ w
  · exact Comp_mt_shf _ _ _ w
  · rename_i b1 c1 b2 c2
    by_cases h : wrap64 (c1 + b2) = c2
    · exact CompE_mt_mt _ _ _ _ h w
    · exact CompN_mt_mt _ _ _ _ h w
  · exact Comp_mt_bot _ _ w
  · exact Comp_bot_top w
  · exact Comp_bot_con _ w
  · exact Comp_bot_shf _ w
  · exact Comp_bot_mt _ _ w
  · exact Comp_bot_bot w
theorem MeX (x y : Xf) (w : World) : Calls Try.prog 14 #[encX x, encX y] w fun e w' => e = .returned (encX (meet x y)) ∧ Below w.heap.size w w' := by
  cases x <;> cases y
  · exact Me_top_top w
  · exact Me_top_con _ w
  · exact Me_top_shf _ w
  · exact Me_top_mt _ _ w
  · exact Me_top_bot w
  · exact Me_con_top _ w
  · exact Me_con_con _ _ w
  · exact Me_con_shf _ _ w
  · exact Me_con_mt _ _ _ w
  · exact Me_con_bot _ w
  · exact Me_shf_top _ w
  · exact Me_shf_con _ _ w
  · exact Me_shf_shf _ _ w
  · exact Me_shf_mt _ _ _ w
  · exact Me_shf_bot _ w
  · exact Me_mt_top _ _ w
  · exact Me_mt_con _ _ _ w
  · exact Me_mt_shf _ _ _ w
  · exact Me_mt_mt _ _ _ _ w
  · exact Me_mt_bot _ _ w
  · exact Me_bot_top w
  · exact Me_bot_con _ w
  · exact Me_bot_shf _ w
  · exact Me_bot_mt _ _ w
  · exact Me_bot_bot w
end Go.Proofs.Ytnicekdbpjalgaa
