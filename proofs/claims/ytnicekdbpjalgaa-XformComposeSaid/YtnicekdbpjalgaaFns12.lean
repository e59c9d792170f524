/- Compose, Meet and Steps of the reference over the five shapes. -/
import Derived.Test.YtnicekdbpjalgaaFns8
import Derived.Test.YtnicekdbpjalgaaFns9
import Derived.Test.YtnicekdbpjalgaaFns10
import Derived.Test.YtnicekdbpjalgaaFns11
namespace Go.Proofs.Ytnicekdbpjalgaa
open Go.RowKit Plain
set_option linter.unusedVariables false
set_option linter.unusedSimpArgs false
attribute [local go_sem high] eqA23 eqA26
set_option maxHeartbeats 1000000 in
theorem CoS_top_top   (w : World) : Calls Try.prog 13 #[.agg #[.int .i64 0, .int .i64 0, .int .i64 0], .agg #[.int .i64 0, .int .i64 0, .int .i64 0]] w fun e w' => e = .returned (encX (comp (Xf.top) (Xf.top))) ∧ Below w.heap.size w w' := by
  go_enter Try.func13, Try.ntmps13
  go_wp2_with fail
  all_goals exact bodyPost_ret (by first | (simp [results, Try.results13, go_sem]; done) | (simp [results, Try.results13, go_sem, hc1, hz1, l0, l1, l2]; done) | (simp [results, Try.results13, go_sem]; rfl) | (simp [results, Try.results13, go_sem, hc1, hz1, l0, l1, l2]; rfl)) rfl ⟨by first | rfl | (simp_all [comp, Xf.k, Xf.b, Xf.c, encX, add, comp_b]; done) | (simp_all [comp, Xf.k, Xf.b, Xf.c, encX, add, comp_b, Int.add_comm]; done), (by repeat (first | exact Below.refl _ _ | refine Below.setCell ?_ (by first | (simp; done) | (simp; omega) | omega) _ | refine Below.alloc ?_ (by first | (simp; done) | (simp; omega) | omega) _ | (refine bstep (by assumption) ?_ (by first | (simp; done) | (simp; omega) | omega))))⟩
set_option maxHeartbeats 1000000 in
theorem CoS_top_con (c2 : Int)  (w : World) : Calls Try.prog 13 #[.agg #[.int .i64 0, .int .i64 0, .int .i64 0], .agg #[.int .i64 1, .int .i64 0, .int .i64 c2]] w fun e w' => e = .returned (encX (comp (Xf.top) (Xf.con c2))) ∧ Below w.heap.size w w' := by
  go_enter Try.func13, Try.ntmps13
  go_wp2_with fail
  all_goals exact bodyPost_ret (by first | (simp [results, Try.results13, go_sem]; done) | (simp [results, Try.results13, go_sem, hc1, hz1, l0, l1, l2]; done) | (simp [results, Try.results13, go_sem]; rfl) | (simp [results, Try.results13, go_sem, hc1, hz1, l0, l1, l2]; rfl)) rfl ⟨by first | rfl | (simp_all [comp, Xf.k, Xf.b, Xf.c, encX, add, comp_b]; done) | (simp_all [comp, Xf.k, Xf.b, Xf.c, encX, add, comp_b, Int.add_comm]; done), (by repeat (first | exact Below.refl _ _ | refine Below.setCell ?_ (by first | (simp; done) | (simp; omega) | omega) _ | refine Below.alloc ?_ (by first | (simp; done) | (simp; omega) | omega) _ | (refine bstep (by assumption) ?_ (by first | (simp; done) | (simp; omega) | omega))))⟩
set_option maxHeartbeats 1000000 in
theorem CoS_top_shf (b2 : Int)  (w : World) : Calls Try.prog 13 #[.agg #[.int .i64 0, .int .i64 0, .int .i64 0], .agg #[.int .i64 2, .int .i64 b2, .int .i64 0]] w fun e w' => e = .returned (encX (comp (Xf.top) (Xf.shf b2))) ∧ Below w.heap.size w w' := by
  go_enter Try.func13, Try.ntmps13
  go_wp2_with fail
  all_goals exact bodyPost_ret (by first | (simp [results, Try.results13, go_sem]; done) | (simp [results, Try.results13, go_sem, hc1, hz1, l0, l1, l2]; done) | (simp [results, Try.results13, go_sem]; rfl) | (simp [results, Try.results13, go_sem, hc1, hz1, l0, l1, l2]; rfl)) rfl ⟨by first | rfl | (simp_all [comp, Xf.k, Xf.b, Xf.c, encX, add, comp_b]; done) | (simp_all [comp, Xf.k, Xf.b, Xf.c, encX, add, comp_b, Int.add_comm]; done), (by repeat (first | exact Below.refl _ _ | refine Below.setCell ?_ (by first | (simp; done) | (simp; omega) | omega) _ | refine Below.alloc ?_ (by first | (simp; done) | (simp; omega) | omega) _ | (refine bstep (by assumption) ?_ (by first | (simp; done) | (simp; omega) | omega))))⟩
set_option maxHeartbeats 1000000 in
theorem CoS_top_mt (b2 c2 : Int)  (w : World) : Calls Try.prog 13 #[.agg #[.int .i64 0, .int .i64 0, .int .i64 0], .agg #[.int .i64 3, .int .i64 b2, .int .i64 c2]] w fun e w' => e = .returned (encX (comp (Xf.top) (Xf.mt b2 c2))) ∧ Below w.heap.size w w' := by
  go_enter Try.func13, Try.ntmps13
  go_wp2_with fail
  all_goals exact bodyPost_ret (by first | (simp [results, Try.results13, go_sem]; done) | (simp [results, Try.results13, go_sem, hc1, hz1, l0, l1, l2]; done) | (simp [results, Try.results13, go_sem]; rfl) | (simp [results, Try.results13, go_sem, hc1, hz1, l0, l1, l2]; rfl)) rfl ⟨by first | rfl | (simp_all [comp, Xf.k, Xf.b, Xf.c, encX, add, comp_b]; done) | (simp_all [comp, Xf.k, Xf.b, Xf.c, encX, add, comp_b, Int.add_comm]; done), (by repeat (first | exact Below.refl _ _ | refine Below.setCell ?_ (by first | (simp; done) | (simp; omega) | omega) _ | refine Below.alloc ?_ (by first | (simp; done) | (simp; omega) | omega) _ | (refine bstep (by assumption) ?_ (by first | (simp; done) | (simp; omega) | omega))))⟩
set_option maxHeartbeats 1000000 in
theorem CoS_top_bot   (w : World) : Calls Try.prog 13 #[.agg #[.int .i64 0, .int .i64 0, .int .i64 0], .agg #[.int .i64 4, .int .i64 0, .int .i64 0]] w fun e w' => e = .returned (encX (comp (Xf.top) (Xf.bot))) ∧ Below w.heap.size w w' := by
  go_enter Try.func13, Try.ntmps13
  go_wp2_with fail
  all_goals exact bodyPost_ret (by first | (simp [results, Try.results13, go_sem]; done) | (simp [results, Try.results13, go_sem, hc1, hz1, l0, l1, l2]; done) | (simp [results, Try.results13, go_sem]; rfl) | (simp [results, Try.results13, go_sem, hc1, hz1, l0, l1, l2]; rfl)) rfl ⟨by first | rfl | (simp_all [comp, Xf.k, Xf.b, Xf.c, encX, add, comp_b]; done) | (simp_all [comp, Xf.k, Xf.b, Xf.c, encX, add, comp_b, Int.add_comm]; done), (by repeat (first | exact Below.refl _ _ | refine Below.setCell ?_ (by first | (simp; done) | (simp; omega) | omega) _ | refine Below.alloc ?_ (by first | (simp; done) | (simp; omega) | omega) _ | (refine bstep (by assumption) ?_ (by first | (simp; done) | (simp; omega) | omega))))⟩
set_option maxHeartbeats 1000000 in
theorem CoS_con_top (c1 : Int)  (w : World) : Calls Try.prog 13 #[.agg #[.int .i64 1, .int .i64 0, .int .i64 c1], .agg #[.int .i64 0, .int .i64 0, .int .i64 0]] w fun e w' => e = .returned (encX (comp (Xf.con c1) (Xf.top))) ∧ Below w.heap.size w w' := by
  go_enter Try.func13, Try.ntmps13
  go_wp2_with fail
  all_goals exact bodyPost_ret (by first | (simp [results, Try.results13, go_sem]; done) | (simp [results, Try.results13, go_sem, hc1, hz1, l0, l1, l2]; done) | (simp [results, Try.results13, go_sem]; rfl) | (simp [results, Try.results13, go_sem, hc1, hz1, l0, l1, l2]; rfl)) rfl ⟨by first | rfl | (simp_all [comp, Xf.k, Xf.b, Xf.c, encX, add, comp_b]; done) | (simp_all [comp, Xf.k, Xf.b, Xf.c, encX, add, comp_b, Int.add_comm]; done), (by repeat (first | exact Below.refl _ _ | refine Below.setCell ?_ (by first | (simp; done) | (simp; omega) | omega) _ | refine Below.alloc ?_ (by first | (simp; done) | (simp; omega) | omega) _ | (refine bstep (by assumption) ?_ (by first | (simp; done) | (simp; omega) | omega))))⟩
set_option maxHeartbeats 1000000 in
theorem CoS_con_con (c1 c2 : Int)  (w : World) : Calls Try.prog 13 #[.agg #[.int .i64 1, .int .i64 0, .int .i64 c1], .agg #[.int .i64 1, .int .i64 0, .int .i64 c2]] w fun e w' => e = .returned (encX (comp (Xf.con c1) (Xf.con c2))) ∧ Below w.heap.size w w' := by
  go_enter Try.func13, Try.ntmps13
  go_wp2_with fail
  all_goals exact bodyPost_ret (by first | (simp [results, Try.results13, go_sem]; done) | (simp [results, Try.results13, go_sem, hc1, hz1, l0, l1, l2]; done) | (simp [results, Try.results13, go_sem]; rfl) | (simp [results, Try.results13, go_sem, hc1, hz1, l0, l1, l2]; rfl)) rfl ⟨by first | rfl | (simp_all [comp, Xf.k, Xf.b, Xf.c, encX, add, comp_b]; done) | (simp_all [comp, Xf.k, Xf.b, Xf.c, encX, add, comp_b, Int.add_comm]; done), (by repeat (first | exact Below.refl _ _ | refine Below.setCell ?_ (by first | (simp; done) | (simp; omega) | omega) _ | refine Below.alloc ?_ (by first | (simp; done) | (simp; omega) | omega) _ | (refine bstep (by assumption) ?_ (by first | (simp; done) | (simp; omega) | omega))))⟩
set_option maxHeartbeats 4000000 in
theorem CoS_con_shf (c1 b2 : Int)  (w : World) : Calls Try.prog 13 #[.agg #[.int .i64 1, .int .i64 0, .int .i64 c1], .agg #[.int .i64 2, .int .i64 b2, .int .i64 0]] w fun e w' => e = .returned (encX (comp (Xf.con c1) (Xf.shf b2))) ∧ Below w.heap.size w w' := by
  go_enter Try.func13, Try.ntmps13
  go_wp2_with fail
  go_region_held3 (fun w' => w'.cell? ⟨w.heap.size, 0, none⟩ = some (.int .i64 1) ∧ w'.cell? ⟨w.heap.size, 1, none⟩ = some (.int .i64 0) ∧ w'.cell? ⟨w.heap.size, 2, none⟩ = some (.int .i64 c1) ∧ w'.cell? ⟨w.heap.size + 1, 0, none⟩ = some (.int .i64 2) ∧ w'.cell? ⟨w.heap.size + 1, 1, none⟩ = some (.int .i64 b2) ∧ w'.cell? ⟨w.heap.size + 1, 2, none⟩ = some (.int .i64 0) ∧ w'.cell? ⟨w.heap.size + 1 + 1, 0, none⟩ = some (.int .i64 0) ∧ w'.cell? ⟨w.heap.size + 1 + 1, 1, none⟩ = some (.int .i64 0) ∧ w'.cell? ⟨w.heap.size + 1 + 1, 2, none⟩ = some (.int .i64 0) ∧ w'.frozen? ⟨w.heap.size + 1 + 1, 0, none⟩ = false ∧ w'.frozen? ⟨w.heap.size + 1 + 1, 1, none⟩ = false ∧ w'.frozen? ⟨w.heap.size + 1 + 1, 2, none⟩ = false ∧ Below w.heap.size w w' ∧ w.heap.size + 3 ≤ w'.heap.size)
    (first
      | (refine ⟨?_, ?_, ?_, ?_, ?_, ?_, ?_, ?_, ?_, ?_, ?_, ?_, ?_, ?_⟩; go_simp; go_simp; go_simp; go_simp; go_simp; go_simp; go_simp; go_simp; go_simp; go_simp; go_simp; go_simp; (focus ((repeat' (with_reducible (first | assumption | exact Below.refl _ _ | apply Below.drew | apply Below.alloc | apply Below.setCell))); all_goals (first | omega | (simp; done) | (simp; omega)))); (first | (focus (simp; done)) | (focus (simp; omega))))
      | (go_split_ands; refine ⟨?_, ?_, ?_, ?_, ?_, ?_, ?_, ?_, ?_, ?_, ?_, ?_, ?_, ?_⟩; (rw [hb.cell (by first | omega | (simp; done) | (simp; omega))]; assumption); (rw [hb.cell (by first | omega | (simp; done) | (simp; omega))]; assumption); (rw [hb.cell (by first | omega | (simp; done) | (simp; omega))]; assumption); (rw [hb.cell (by first | omega | (simp; done) | (simp; omega))]; assumption); (rw [hb.cell (by first | omega | (simp; done) | (simp; omega))]; assumption); (rw [hb.cell (by first | omega | (simp; done) | (simp; omega))]; assumption); (rw [hb.cell (by first | omega | (simp; done) | (simp; omega))]; assumption); (rw [hb.cell (by first | omega | (simp; done) | (simp; omega))]; assumption); (rw [hb.cell (by first | omega | (simp; done) | (simp; omega))]; assumption); (rw [hb.frozen (by first | omega | (simp; done) | (simp; omega))]; assumption); (rw [hb.frozen (by first | omega | (simp; done) | (simp; omega))]; assumption); (rw [hb.frozen (by first | omega | (simp; done) | (simp; omega))]; assumption); exact bstep hb (by assumption) (by first | omega | (simp; done) | (simp; omega)); (have hq := hb.size; omega))
      | (go_split_ands; refine ⟨?_, ?_, ?_, ?_, ?_, ?_, ?_, ?_, ?_, ?_, ?_, ?_, ?_, ?_⟩; (refine kc_alloc ?_; assumption); (refine kc_alloc ?_; assumption); (refine kc_alloc ?_; assumption); (refine kc_alloc ?_; assumption); (refine kc_alloc ?_; assumption); (refine kc_alloc ?_; assumption); (refine kc_alloc ?_; assumption); (refine kc_alloc ?_; assumption); (refine kc_alloc ?_; assumption); (refine kf_alloc (by first | omega | (simp; done) | (simp; omega)) ?_; assumption); (refine kf_alloc (by first | omega | (simp; done) | (simp; omega)) ?_; assumption); (refine kf_alloc (by first | omega | (simp; done) | (simp; omega)) ?_; assumption); exact Below.alloc (by assumption) (by first | omega | (simp; done) | (simp; omega)) _; (first | omega | (rw [World.size_alloc]; omega)))
      | (go_split_ands; refine ⟨?_, ?_, ?_, ?_, ?_, ?_, ?_, ?_, ?_, ?_, ?_, ?_, ?_, ?_⟩; exact kc_realloc (by first | omega | (simp; done) | (simp; omega)) (by assumption); exact kc_realloc (by first | omega | (simp; done) | (simp; omega)) (by assumption); exact kc_realloc (by first | omega | (simp; done) | (simp; omega)) (by assumption); exact kc_realloc (by first | omega | (simp; done) | (simp; omega)) (by assumption); exact kc_realloc (by first | omega | (simp; done) | (simp; omega)) (by assumption); exact kc_realloc (by first | omega | (simp; done) | (simp; omega)) (by assumption); exact kc_realloc (by first | omega | (simp; done) | (simp; omega)) (by assumption); exact kc_realloc (by first | omega | (simp; done) | (simp; omega)) (by assumption); exact kc_realloc (by first | omega | (simp; done) | (simp; omega)) (by assumption); exact kf_realloc (by first | omega | (simp; done) | (simp; omega)) (by assumption); exact kf_realloc (by first | omega | (simp; done) | (simp; omega)) (by assumption); exact kf_realloc (by first | omega | (simp; done) | (simp; omega)) (by assumption); exact kb_realloc (by first | omega | (simp; done) | (simp; omega)) (by assumption); (first | omega | (rw [World.size_alloc]; omega)))
      | (go_split_ands; refine ⟨?_, ?_, ?_, ?_, ?_, ?_, ?_, ?_, ?_, ?_, ?_, ?_, ?_, ?_⟩; (focus (repeat (first | assumption | refine kc_set (by first | omega | (simp; done) | (simp; omega)) ?_))); (focus (repeat (first | assumption | refine kc_set (by first | omega | (simp; done) | (simp; omega)) ?_))); (focus (repeat (first | assumption | refine kc_set (by first | omega | (simp; done) | (simp; omega)) ?_))); (focus (repeat (first | assumption | refine kc_set (by first | omega | (simp; done) | (simp; omega)) ?_))); (focus (repeat (first | assumption | refine kc_set (by first | omega | (simp; done) | (simp; omega)) ?_))); (focus (repeat (first | assumption | refine kc_set (by first | omega | (simp; done) | (simp; omega)) ?_))); (focus (repeat (first | assumption | refine kc_set (by first | omega | (simp; done) | (simp; omega)) ?_))); (focus (repeat (first | assumption | refine kc_set (by first | omega | (simp; done) | (simp; omega)) ?_))); (focus (repeat (first | assumption | refine kc_set (by first | omega | (simp; done) | (simp; omega)) ?_))); (focus (repeat (first | assumption | refine kf_set ?_))); (focus (repeat (first | assumption | refine kf_set ?_))); (focus (repeat (first | assumption | refine kf_set ?_))); (focus (repeat (first | assumption | refine Below.setCell ?_ (by first | omega | (simp; done) | (simp; omega)) _))); (first | omega | (focus (simp only [World.size_setCell]; omega)) | (focus (simp; omega)) | (focus (simp only [World.size_setCell]; done)))))
    (first
      | (go_at_call 29; ((with_reducible refine (constantS _ _).mono ?_)); rintro e w1 ⟨rfl, hb⟩; have hz := hb.size; (try simp at hz); (try (have q0 := (hb.cell (by first | omega | (simp; done) | (simp; omega))).trans q0; have q1 := (hb.cell (by first | omega | (simp; done) | (simp; omega))).trans q1; have q2 := (hb.frozen (by first | omega | (simp; done) | (simp; omega))).trans q2; have q3 := (hb.frozen (by first | omega | (simp; done) | (simp; omega))).trans q3)); (try (have u0 := (hb.cell (by first | omega | (simp; done) | (simp; omega))).trans u0; have u1 := (hb.cell (by first | omega | (simp; done) | (simp; omega))).trans u1; have u2 := (hb.cell (by first | omega | (simp; done) | (simp; omega))).trans u2; have u3 := (hb.frozen (by first | omega | (simp; done) | (simp; omega))).trans u3; have u4 := (hb.frozen (by first | omega | (simp; done) | (simp; omega))).trans u4; have u5 := (hb.frozen (by first | omega | (simp; done) | (simp; omega))).trans u5)); (try (have q := bx2 hb; obtain ⟨q0, q1, q2, q3, q4⟩ := q; try simp only [World.size_alloc, World.size_drew] at q0 q1 q2 q3 q4)); (try (have q := bx2d hb; obtain ⟨q0, q1, q2, q3, q4⟩ := q; try simp only [World.size_alloc, World.size_drew] at q0 q1 q2 q3 q4)); (try (have u := bx3 hb; obtain ⟨u0, u1, u2, u3, u4, u5, u6⟩ := u; try simp only [World.size_alloc, World.size_drew] at u0 u1 u2 u3 u4 u5 u6)); (try (have u := bx3d hb; obtain ⟨u0, u1, u2, u3, u4, u5, u6⟩ := u; try simp only [World.size_alloc, World.size_drew] at u0 u1 u2 u3 u4 u5 u6)))
      | (go_at_call 21; ((with_reducible refine (apS_shf _ _ _).mono ?_)); rintro e w1 ⟨rfl, hb⟩; have hz := hb.size; (try simp at hz); (try (have q0 := (hb.cell (by first | omega | (simp; done) | (simp; omega))).trans q0; have q1 := (hb.cell (by first | omega | (simp; done) | (simp; omega))).trans q1; have q2 := (hb.frozen (by first | omega | (simp; done) | (simp; omega))).trans q2; have q3 := (hb.frozen (by first | omega | (simp; done) | (simp; omega))).trans q3)); (try (have u0 := (hb.cell (by first | omega | (simp; done) | (simp; omega))).trans u0; have u1 := (hb.cell (by first | omega | (simp; done) | (simp; omega))).trans u1; have u2 := (hb.cell (by first | omega | (simp; done) | (simp; omega))).trans u2; have u3 := (hb.frozen (by first | omega | (simp; done) | (simp; omega))).trans u3; have u4 := (hb.frozen (by first | omega | (simp; done) | (simp; omega))).trans u4; have u5 := (hb.frozen (by first | omega | (simp; done) | (simp; omega))).trans u5)); (try (have q := bx2 hb; obtain ⟨q0, q1, q2, q3, q4⟩ := q; try simp only [World.size_alloc, World.size_drew] at q0 q1 q2 q3 q4)); (try (have q := bx2d hb; obtain ⟨q0, q1, q2, q3, q4⟩ := q; try simp only [World.size_alloc, World.size_drew] at q0 q1 q2 q3 q4)); (try (have u := bx3 hb; obtain ⟨u0, u1, u2, u3, u4, u5, u6⟩ := u; try simp only [World.size_alloc, World.size_drew] at u0 u1 u2 u3 u4 u5 u6)); (try (have u := bx3d hb; obtain ⟨u0, u1, u2, u3, u4, u5, u6⟩ := u; try simp only [World.size_alloc, World.size_drew] at u0 u1 u2 u3 u4 u5 u6))))
  all_goals go_split_ands
  all_goals go_wp2_with fail
  all_goals exact bodyPost_ret (by first | (simp [results, Try.results13, go_sem, *]; done) | (simp [results, Try.results13, go_sem, *]; rfl)) rfl ⟨by first | rfl | (simp [comp, Xf.k, Xf.b, Xf.c, encX, add]; done) | (simp [comp, Xf.k, Xf.b, Xf.c, encX, add, Int.add_comm]; done), (by repeat (first | assumption | exact Below.refl _ _ | refine Below.setCell ?_ (by first | (simp; done) | (simp; omega) | omega) _ | refine Below.alloc ?_ (by first | (simp; done) | (simp; omega) | omega) _ | refine Below.drew ?_ | (refine bstep (by assumption) ?_ (by first | (simp; done) | (simp; omega) | omega))))⟩
set_option maxHeartbeats 1000000 in
theorem CoS_con_bot (c1 : Int)  (w : World) : Calls Try.prog 13 #[.agg #[.int .i64 1, .int .i64 0, .int .i64 c1], .agg #[.int .i64 4, .int .i64 0, .int .i64 0]] w fun e w' => e = .returned (encX (comp (Xf.con c1) (Xf.bot))) ∧ Below w.heap.size w w' := by
  go_enter Try.func13, Try.ntmps13
  go_wp2_with fail
  all_goals exact bodyPost_ret (by first | (simp [results, Try.results13, go_sem]; done) | (simp [results, Try.results13, go_sem, hc1, hz1, l0, l1, l2]; done) | (simp [results, Try.results13, go_sem]; rfl) | (simp [results, Try.results13, go_sem, hc1, hz1, l0, l1, l2]; rfl)) rfl ⟨by first | rfl | (simp_all [comp, Xf.k, Xf.b, Xf.c, encX, add, comp_b]; done) | (simp_all [comp, Xf.k, Xf.b, Xf.c, encX, add, comp_b, Int.add_comm]; done), (by repeat (first | exact Below.refl _ _ | refine Below.setCell ?_ (by first | (simp; done) | (simp; omega) | omega) _ | refine Below.alloc ?_ (by first | (simp; done) | (simp; omega) | omega) _ | (refine bstep (by assumption) ?_ (by first | (simp; done) | (simp; omega) | omega))))⟩
set_option maxHeartbeats 1000000 in
theorem CoS_shf_top (b1 : Int)  (w : World) : Calls Try.prog 13 #[.agg #[.int .i64 2, .int .i64 b1, .int .i64 0], .agg #[.int .i64 0, .int .i64 0, .int .i64 0]] w fun e w' => e = .returned (encX (comp (Xf.shf b1) (Xf.top))) ∧ Below w.heap.size w w' := by
  go_enter Try.func13, Try.ntmps13
  go_wp2_with fail
  all_goals exact bodyPost_ret (by first | (simp [results, Try.results13, go_sem]; done) | (simp [results, Try.results13, go_sem, hc1, hz1, l0, l1, l2]; done) | (simp [results, Try.results13, go_sem]; rfl) | (simp [results, Try.results13, go_sem, hc1, hz1, l0, l1, l2]; rfl)) rfl ⟨by first | rfl | (simp_all [comp, Xf.k, Xf.b, Xf.c, encX, add, comp_b]; done) | (simp_all [comp, Xf.k, Xf.b, Xf.c, encX, add, comp_b, Int.add_comm]; done), (by repeat (first | exact Below.refl _ _ | refine Below.setCell ?_ (by first | (simp; done) | (simp; omega) | omega) _ | refine Below.alloc ?_ (by first | (simp; done) | (simp; omega) | omega) _ | (refine bstep (by assumption) ?_ (by first | (simp; done) | (simp; omega) | omega))))⟩
set_option maxHeartbeats 1000000 in
theorem CoS_shf_con (b1 c2 : Int)  (w : World) : Calls Try.prog 13 #[.agg #[.int .i64 2, .int .i64 b1, .int .i64 0], .agg #[.int .i64 1, .int .i64 0, .int .i64 c2]] w fun e w' => e = .returned (encX (comp (Xf.shf b1) (Xf.con c2))) ∧ Below w.heap.size w w' := by
  go_enter Try.func13, Try.ntmps13
  go_wp2_with fail
  all_goals exact bodyPost_ret (by first | (simp [results, Try.results13, go_sem]; done) | (simp [results, Try.results13, go_sem, hc1, hz1, l0, l1, l2]; done) | (simp [results, Try.results13, go_sem]; rfl) | (simp [results, Try.results13, go_sem, hc1, hz1, l0, l1, l2]; rfl)) rfl ⟨by first | rfl | (simp_all [comp, Xf.k, Xf.b, Xf.c, encX, add, comp_b]; done) | (simp_all [comp, Xf.k, Xf.b, Xf.c, encX, add, comp_b, Int.add_comm]; done), (by repeat (first | exact Below.refl _ _ | refine Below.setCell ?_ (by first | (simp; done) | (simp; omega) | omega) _ | refine Below.alloc ?_ (by first | (simp; done) | (simp; omega) | omega) _ | (refine bstep (by assumption) ?_ (by first | (simp; done) | (simp; omega) | omega))))⟩
set_option maxHeartbeats 1000000 in
theorem CoS_shf_shf (b1 b2 : Int)  (w : World) : Calls Try.prog 13 #[.agg #[.int .i64 2, .int .i64 b1, .int .i64 0], .agg #[.int .i64 2, .int .i64 b2, .int .i64 0]] w fun e w' => e = .returned (encX (comp (Xf.shf b1) (Xf.shf b2))) ∧ Below w.heap.size w w' := by
  go_enter Try.func13, Try.ntmps13
  go_wp2_with fail
  all_goals exact bodyPost_ret (by first | (simp [results, Try.results13, go_sem]; done) | (simp [results, Try.results13, go_sem, hc1, hz1, l0, l1, l2]; done) | (simp [results, Try.results13, go_sem]; rfl) | (simp [results, Try.results13, go_sem, hc1, hz1, l0, l1, l2]; rfl)) rfl ⟨by first | rfl | (simp_all [comp, Xf.k, Xf.b, Xf.c, encX, add, comp_b]; done) | (simp_all [comp, Xf.k, Xf.b, Xf.c, encX, add, comp_b, Int.add_comm]; done), (by repeat (first | exact Below.refl _ _ | refine Below.setCell ?_ (by first | (simp; done) | (simp; omega) | omega) _ | refine Below.alloc ?_ (by first | (simp; done) | (simp; omega) | omega) _ | (refine bstep (by assumption) ?_ (by first | (simp; done) | (simp; omega) | omega))))⟩
set_option maxHeartbeats 1000000 in
theorem CoS_shf_mt (b1 b2 c2 : Int)  (w : World) : Calls Try.prog 13 #[.agg #[.int .i64 2, .int .i64 b1, .int .i64 0], .agg #[.int .i64 3, .int .i64 b2, .int .i64 c2]] w fun e w' => e = .returned (encX (comp (Xf.shf b1) (Xf.mt b2 c2))) ∧ Below w.heap.size w w' := by
  go_enter Try.func13, Try.ntmps13
  go_wp2_with fail
  all_goals exact bodyPost_ret (by first | (simp [results, Try.results13, go_sem]; done) | (simp [results, Try.results13, go_sem, hc1, hz1, l0, l1, l2]; done) | (simp [results, Try.results13, go_sem]; rfl) | (simp [results, Try.results13, go_sem, hc1, hz1, l0, l1, l2]; rfl)) rfl ⟨by first | rfl | (simp_all [comp, Xf.k, Xf.b, Xf.c, encX, add, comp_b]; done) | (simp_all [comp, Xf.k, Xf.b, Xf.c, encX, add, comp_b, Int.add_comm]; done), (by repeat (first | exact Below.refl _ _ | refine Below.setCell ?_ (by first | (simp; done) | (simp; omega) | omega) _ | refine Below.alloc ?_ (by first | (simp; done) | (simp; omega) | omega) _ | (refine bstep (by assumption) ?_ (by first | (simp; done) | (simp; omega) | omega))))⟩
set_option maxHeartbeats 1000000 in
theorem CoS_shf_bot (b1 : Int)  (w : World) : Calls Try.prog 13 #[.agg #[.int .i64 2, .int .i64 b1, .int .i64 0], .agg #[.int .i64 4, .int .i64 0, .int .i64 0]] w fun e w' => e = .returned (encX (comp (Xf.shf b1) (Xf.bot))) ∧ Below w.heap.size w w' := by
  go_enter Try.func13, Try.ntmps13
  go_wp2_with fail
  all_goals exact bodyPost_ret (by first | (simp [results, Try.results13, go_sem]; done) | (simp [results, Try.results13, go_sem, hc1, hz1, l0, l1, l2]; done) | (simp [results, Try.results13, go_sem]; rfl) | (simp [results, Try.results13, go_sem, hc1, hz1, l0, l1, l2]; rfl)) rfl ⟨by first | rfl | (simp_all [comp, Xf.k, Xf.b, Xf.c, encX, add, comp_b]; done) | (simp_all [comp, Xf.k, Xf.b, Xf.c, encX, add, comp_b, Int.add_comm]; done), (by repeat (first | exact Below.refl _ _ | refine Below.setCell ?_ (by first | (simp; done) | (simp; omega) | omega) _ | refine Below.alloc ?_ (by first | (simp; done) | (simp; omega) | omega) _ | (refine bstep (by assumption) ?_ (by first | (simp; done) | (simp; omega) | omega))))⟩
set_option maxHeartbeats 1000000 in
theorem CoS_mt_top (b1 c1 : Int)  (w : World) : Calls Try.prog 13 #[.agg #[.int .i64 3, .int .i64 b1, .int .i64 c1], .agg #[.int .i64 0, .int .i64 0, .int .i64 0]] w fun e w' => e = .returned (encX (comp (Xf.mt b1 c1) (Xf.top))) ∧ Below w.heap.size w w' := by
  go_enter Try.func13, Try.ntmps13
  go_wp2_with fail
  all_goals exact bodyPost_ret (by first | (simp [results, Try.results13, go_sem]; done) | (simp [results, Try.results13, go_sem, hc1, hz1, l0, l1, l2]; done) | (simp [results, Try.results13, go_sem]; rfl) | (simp [results, Try.results13, go_sem, hc1, hz1, l0, l1, l2]; rfl)) rfl ⟨by first | rfl | (simp_all [comp, Xf.k, Xf.b, Xf.c, encX, add, comp_b]; done) | (simp_all [comp, Xf.k, Xf.b, Xf.c, encX, add, comp_b, Int.add_comm]; done), (by repeat (first | exact Below.refl _ _ | refine Below.setCell ?_ (by first | (simp; done) | (simp; omega) | omega) _ | refine Below.alloc ?_ (by first | (simp; done) | (simp; omega) | omega) _ | (refine bstep (by assumption) ?_ (by first | (simp; done) | (simp; omega) | omega))))⟩
set_option maxHeartbeats 1000000 in
theorem CoS_mt_con (b1 c1 c2 : Int)  (w : World) : Calls Try.prog 13 #[.agg #[.int .i64 3, .int .i64 b1, .int .i64 c1], .agg #[.int .i64 1, .int .i64 0, .int .i64 c2]] w fun e w' => e = .returned (encX (comp (Xf.mt b1 c1) (Xf.con c2))) ∧ Below w.heap.size w w' := by
  go_enter Try.func13, Try.ntmps13
  go_wp2_with fail
  all_goals exact bodyPost_ret (by first | (simp [results, Try.results13, go_sem]; done) | (simp [results, Try.results13, go_sem, hc1, hz1, l0, l1, l2]; done) | (simp [results, Try.results13, go_sem]; rfl) | (simp [results, Try.results13, go_sem, hc1, hz1, l0, l1, l2]; rfl)) rfl ⟨by first | rfl | (simp_all [comp, Xf.k, Xf.b, Xf.c, encX, add, comp_b]; done) | (simp_all [comp, Xf.k, Xf.b, Xf.c, encX, add, comp_b, Int.add_comm]; done), (by repeat (first | exact Below.refl _ _ | refine Below.setCell ?_ (by first | (simp; done) | (simp; omega) | omega) _ | refine Below.alloc ?_ (by first | (simp; done) | (simp; omega) | omega) _ | (refine bstep (by assumption) ?_ (by first | (simp; done) | (simp; omega) | omega))))⟩
set_option maxHeartbeats 4000000 in
theorem CoS_mt_shf (b1 c1 b2 : Int)  (w : World) : Calls Try.prog 13 #[.agg #[.int .i64 3, .int .i64 b1, .int .i64 c1], .agg #[.int .i64 2, .int .i64 b2, .int .i64 0]] w fun e w' => e = .returned (encX (comp (Xf.mt b1 c1) (Xf.shf b2))) ∧ Below w.heap.size w w' := by
  go_enter Try.func13, Try.ntmps13
  go_wp2_with fail
  go_region_held3 (fun w' => w'.cell? ⟨w.heap.size, 0, none⟩ = some (.int .i64 3) ∧ w'.cell? ⟨w.heap.size, 1, none⟩ = some (.int .i64 b1) ∧ w'.cell? ⟨w.heap.size, 2, none⟩ = some (.int .i64 c1) ∧ w'.cell? ⟨w.heap.size + 1, 0, none⟩ = some (.int .i64 2) ∧ w'.cell? ⟨w.heap.size + 1, 1, none⟩ = some (.int .i64 b2) ∧ w'.cell? ⟨w.heap.size + 1, 2, none⟩ = some (.int .i64 0) ∧ w'.cell? ⟨w.heap.size + 1 + 1, 0, none⟩ = some (.int .i64 0) ∧ w'.cell? ⟨w.heap.size + 1 + 1, 1, none⟩ = some (.int .i64 0) ∧ w'.cell? ⟨w.heap.size + 1 + 1, 2, none⟩ = some (.int .i64 0) ∧ w'.frozen? ⟨w.heap.size + 1 + 1, 0, none⟩ = false ∧ w'.frozen? ⟨w.heap.size + 1 + 1, 1, none⟩ = false ∧ w'.frozen? ⟨w.heap.size + 1 + 1, 2, none⟩ = false ∧ Below w.heap.size w w' ∧ w.heap.size + 3 ≤ w'.heap.size)
    (first
      | (refine ⟨?_, ?_, ?_, ?_, ?_, ?_, ?_, ?_, ?_, ?_, ?_, ?_, ?_, ?_⟩; go_simp; go_simp; go_simp; go_simp; go_simp; go_simp; go_simp; go_simp; go_simp; go_simp; go_simp; go_simp; (focus ((repeat' (with_reducible (first | assumption | exact Below.refl _ _ | apply Below.drew | apply Below.alloc | apply Below.setCell))); all_goals (first | omega | (simp; done) | (simp; omega)))); (first | (focus (simp; done)) | (focus (simp; omega))))
      | (go_split_ands; refine ⟨?_, ?_, ?_, ?_, ?_, ?_, ?_, ?_, ?_, ?_, ?_, ?_, ?_, ?_⟩; (rw [hb.cell (by first | omega | (simp; done) | (simp; omega))]; assumption); (rw [hb.cell (by first | omega | (simp; done) | (simp; omega))]; assumption); (rw [hb.cell (by first | omega | (simp; done) | (simp; omega))]; assumption); (rw [hb.cell (by first | omega | (simp; done) | (simp; omega))]; assumption); (rw [hb.cell (by first | omega | (simp; done) | (simp; omega))]; assumption); (rw [hb.cell (by first | omega | (simp; done) | (simp; omega))]; assumption); (rw [hb.cell (by first | omega | (simp; done) | (simp; omega))]; assumption); (rw [hb.cell (by first | omega | (simp; done) | (simp; omega))]; assumption); (rw [hb.cell (by first | omega | (simp; done) | (simp; omega))]; assumption); (rw [hb.frozen (by first | omega | (simp; done) | (simp; omega))]; assumption); (rw [hb.frozen (by first | omega | (simp; done) | (simp; omega))]; assumption); (rw [hb.frozen (by first | omega | (simp; done) | (simp; omega))]; assumption); exact bstep hb (by assumption) (by first | omega | (simp; done) | (simp; omega)); (have hq := hb.size; omega))
      | (go_split_ands; refine ⟨?_, ?_, ?_, ?_, ?_, ?_, ?_, ?_, ?_, ?_, ?_, ?_, ?_, ?_⟩; (refine kc_alloc ?_; assumption); (refine kc_alloc ?_; assumption); (refine kc_alloc ?_; assumption); (refine kc_alloc ?_; assumption); (refine kc_alloc ?_; assumption); (refine kc_alloc ?_; assumption); (refine kc_alloc ?_; assumption); (refine kc_alloc ?_; assumption); (refine kc_alloc ?_; assumption); (refine kf_alloc (by first | omega | (simp; done) | (simp; omega)) ?_; assumption); (refine kf_alloc (by first | omega | (simp; done) | (simp; omega)) ?_; assumption); (refine kf_alloc (by first | omega | (simp; done) | (simp; omega)) ?_; assumption); exact Below.alloc (by assumption) (by first | omega | (simp; done) | (simp; omega)) _; (first | omega | (rw [World.size_alloc]; omega)))
      | (go_split_ands; refine ⟨?_, ?_, ?_, ?_, ?_, ?_, ?_, ?_, ?_, ?_, ?_, ?_, ?_, ?_⟩; exact kc_realloc (by first | omega | (simp; done) | (simp; omega)) (by assumption); exact kc_realloc (by first | omega | (simp; done) | (simp; omega)) (by assumption); exact kc_realloc (by first | omega | (simp; done) | (simp; omega)) (by assumption); exact kc_realloc (by first | omega | (simp; done) | (simp; omega)) (by assumption); exact kc_realloc (by first | omega | (simp; done) | (simp; omega)) (by assumption); exact kc_realloc (by first | omega | (simp; done) | (simp; omega)) (by assumption); exact kc_realloc (by first | omega | (simp; done) | (simp; omega)) (by assumption); exact kc_realloc (by first | omega | (simp; done) | (simp; omega)) (by assumption); exact kc_realloc (by first | omega | (simp; done) | (simp; omega)) (by assumption); exact kf_realloc (by first | omega | (simp; done) | (simp; omega)) (by assumption); exact kf_realloc (by first | omega | (simp; done) | (simp; omega)) (by assumption); exact kf_realloc (by first | omega | (simp; done) | (simp; omega)) (by assumption); exact kb_realloc (by first | omega | (simp; done) | (simp; omega)) (by assumption); (first | omega | (rw [World.size_alloc]; omega)))
      | (go_split_ands; refine ⟨?_, ?_, ?_, ?_, ?_, ?_, ?_, ?_, ?_, ?_, ?_, ?_, ?_, ?_⟩; (focus (repeat (first | assumption | refine kc_set (by first | omega | (simp; done) | (simp; omega)) ?_))); (focus (repeat (first | assumption | refine kc_set (by first | omega | (simp; done) | (simp; omega)) ?_))); (focus (repeat (first | assumption | refine kc_set (by first | omega | (simp; done) | (simp; omega)) ?_))); (focus (repeat (first | assumption | refine kc_set (by first | omega | (simp; done) | (simp; omega)) ?_))); (focus (repeat (first | assumption | refine kc_set (by first | omega | (simp; done) | (simp; omega)) ?_))); (focus (repeat (first | assumption | refine kc_set (by first | omega | (simp; done) | (simp; omega)) ?_))); (focus (repeat (first | assumption | refine kc_set (by first | omega | (simp; done) | (simp; omega)) ?_))); (focus (repeat (first | assumption | refine kc_set (by first | omega | (simp; done) | (simp; omega)) ?_))); (focus (repeat (first | assumption | refine kc_set (by first | omega | (simp; done) | (simp; omega)) ?_))); (focus (repeat (first | assumption | refine kf_set ?_))); (focus (repeat (first | assumption | refine kf_set ?_))); (focus (repeat (first | assumption | refine kf_set ?_))); (focus (repeat (first | assumption | refine Below.setCell ?_ (by first | omega | (simp; done) | (simp; omega)) _))); (first | omega | (focus (simp only [World.size_setCell]; omega)) | (focus (simp; omega)) | (focus (simp only [World.size_setCell]; done)))))
    (first
      | (go_at_call 29; ((with_reducible refine (constantS _ _).mono ?_)); rintro e w1 ⟨rfl, hb⟩; have hz := hb.size; (try simp at hz); (try (have q0 := (hb.cell (by first | omega | (simp; done) | (simp; omega))).trans q0; have q1 := (hb.cell (by first | omega | (simp; done) | (simp; omega))).trans q1; have q2 := (hb.frozen (by first | omega | (simp; done) | (simp; omega))).trans q2; have q3 := (hb.frozen (by first | omega | (simp; done) | (simp; omega))).trans q3)); (try (have u0 := (hb.cell (by first | omega | (simp; done) | (simp; omega))).trans u0; have u1 := (hb.cell (by first | omega | (simp; done) | (simp; omega))).trans u1; have u2 := (hb.cell (by first | omega | (simp; done) | (simp; omega))).trans u2; have u3 := (hb.frozen (by first | omega | (simp; done) | (simp; omega))).trans u3; have u4 := (hb.frozen (by first | omega | (simp; done) | (simp; omega))).trans u4; have u5 := (hb.frozen (by first | omega | (simp; done) | (simp; omega))).trans u5)); (try (have q := bx2 hb; obtain ⟨q0, q1, q2, q3, q4⟩ := q; try simp only [World.size_alloc, World.size_drew] at q0 q1 q2 q3 q4)); (try (have q := bx2d hb; obtain ⟨q0, q1, q2, q3, q4⟩ := q; try simp only [World.size_alloc, World.size_drew] at q0 q1 q2 q3 q4)); (try (have u := bx3 hb; obtain ⟨u0, u1, u2, u3, u4, u5, u6⟩ := u; try simp only [World.size_alloc, World.size_drew] at u0 u1 u2 u3 u4 u5 u6)); (try (have u := bx3d hb; obtain ⟨u0, u1, u2, u3, u4, u5, u6⟩ := u; try simp only [World.size_alloc, World.size_drew] at u0 u1 u2 u3 u4 u5 u6)))
      | (go_at_call 21; ((with_reducible refine (apS_shf _ _ _).mono ?_)); rintro e w1 ⟨rfl, hb⟩; have hz := hb.size; (try simp at hz); (try (have q0 := (hb.cell (by first | omega | (simp; done) | (simp; omega))).trans q0; have q1 := (hb.cell (by first | omega | (simp; done) | (simp; omega))).trans q1; have q2 := (hb.frozen (by first | omega | (simp; done) | (simp; omega))).trans q2; have q3 := (hb.frozen (by first | omega | (simp; done) | (simp; omega))).trans q3)); (try (have u0 := (hb.cell (by first | omega | (simp; done) | (simp; omega))).trans u0; have u1 := (hb.cell (by first | omega | (simp; done) | (simp; omega))).trans u1; have u2 := (hb.cell (by first | omega | (simp; done) | (simp; omega))).trans u2; have u3 := (hb.frozen (by first | omega | (simp; done) | (simp; omega))).trans u3; have u4 := (hb.frozen (by first | omega | (simp; done) | (simp; omega))).trans u4; have u5 := (hb.frozen (by first | omega | (simp; done) | (simp; omega))).trans u5)); (try (have q := bx2 hb; obtain ⟨q0, q1, q2, q3, q4⟩ := q; try simp only [World.size_alloc, World.size_drew] at q0 q1 q2 q3 q4)); (try (have q := bx2d hb; obtain ⟨q0, q1, q2, q3, q4⟩ := q; try simp only [World.size_alloc, World.size_drew] at q0 q1 q2 q3 q4)); (try (have u := bx3 hb; obtain ⟨u0, u1, u2, u3, u4, u5, u6⟩ := u; try simp only [World.size_alloc, World.size_drew] at u0 u1 u2 u3 u4 u5 u6)); (try (have u := bx3d hb; obtain ⟨u0, u1, u2, u3, u4, u5, u6⟩ := u; try simp only [World.size_alloc, World.size_drew] at u0 u1 u2 u3 u4 u5 u6))))
  all_goals go_split_ands
  all_goals go_wp2_with fail
  all_goals exact bodyPost_ret (by first | (simp [results, Try.results13, go_sem, *]; done) | (simp [results, Try.results13, go_sem, *]; rfl)) rfl ⟨by first | rfl | (simp [comp, Xf.k, Xf.b, Xf.c, encX, add]; done) | (simp [comp, Xf.k, Xf.b, Xf.c, encX, add, Int.add_comm]; done), (by repeat (first | assumption | exact Below.refl _ _ | refine Below.setCell ?_ (by first | (simp; done) | (simp; omega) | omega) _ | refine Below.alloc ?_ (by first | (simp; done) | (simp; omega) | omega) _ | refine Below.drew ?_ | (refine bstep (by assumption) ?_ (by first | (simp; done) | (simp; omega) | omega))))⟩
set_option maxHeartbeats 1000000 in
theorem CoS_mt_bot (b1 c1 : Int)  (w : World) : Calls Try.prog 13 #[.agg #[.int .i64 3, .int .i64 b1, .int .i64 c1], .agg #[.int .i64 4, .int .i64 0, .int .i64 0]] w fun e w' => e = .returned (encX (comp (Xf.mt b1 c1) (Xf.bot))) ∧ Below w.heap.size w w' := by
  go_enter Try.func13, Try.ntmps13
  go_wp2_with fail
  all_goals exact bodyPost_ret (by first | (simp [results, Try.results13, go_sem]; done) | (simp [results, Try.results13, go_sem, hc1, hz1, l0, l1, l2]; done) | (simp [results, Try.results13, go_sem]; rfl) | (simp [results, Try.results13, go_sem, hc1, hz1, l0, l1, l2]; rfl)) rfl ⟨by first | rfl | (simp_all [comp, Xf.k, Xf.b, Xf.c, encX, add, comp_b]; done) | (simp_all [comp, Xf.k, Xf.b, Xf.c, encX, add, comp_b, Int.add_comm]; done), (by repeat (first | exact Below.refl _ _ | refine Below.setCell ?_ (by first | (simp; done) | (simp; omega) | omega) _ | refine Below.alloc ?_ (by first | (simp; done) | (simp; omega) | omega) _ | (refine bstep (by assumption) ?_ (by first | (simp; done) | (simp; omega) | omega))))⟩
set_option maxHeartbeats 1000000 in
theorem CoS_bot_top   (w : World) : Calls Try.prog 13 #[.agg #[.int .i64 4, .int .i64 0, .int .i64 0], .agg #[.int .i64 0, .int .i64 0, .int .i64 0]] w fun e w' => e = .returned (encX (comp (Xf.bot) (Xf.top))) ∧ Below w.heap.size w w' := by
  go_enter Try.func13, Try.ntmps13
  go_wp2_with fail
  all_goals exact bodyPost_ret (by first | (simp [results, Try.results13, go_sem]; done) | (simp [results, Try.results13, go_sem, hc1, hz1, l0, l1, l2]; done) | (simp [results, Try.results13, go_sem]; rfl) | (simp [results, Try.results13, go_sem, hc1, hz1, l0, l1, l2]; rfl)) rfl ⟨by first | rfl | (simp_all [comp, Xf.k, Xf.b, Xf.c, encX, add, comp_b]; done) | (simp_all [comp, Xf.k, Xf.b, Xf.c, encX, add, comp_b, Int.add_comm]; done), (by repeat (first | exact Below.refl _ _ | refine Below.setCell ?_ (by first | (simp; done) | (simp; omega) | omega) _ | refine Below.alloc ?_ (by first | (simp; done) | (simp; omega) | omega) _ | (refine bstep (by assumption) ?_ (by first | (simp; done) | (simp; omega) | omega))))⟩
set_option maxHeartbeats 1000000 in
theorem CoS_bot_con (c2 : Int)  (w : World) : Calls Try.prog 13 #[.agg #[.int .i64 4, .int .i64 0, .int .i64 0], .agg #[.int .i64 1, .int .i64 0, .int .i64 c2]] w fun e w' => e = .returned (encX (comp (Xf.bot) (Xf.con c2))) ∧ Below w.heap.size w w' := by
  go_enter Try.func13, Try.ntmps13
  go_wp2_with fail
  all_goals exact bodyPost_ret (by first | (simp [results, Try.results13, go_sem]; done) | (simp [results, Try.results13, go_sem, hc1, hz1, l0, l1, l2]; done) | (simp [results, Try.results13, go_sem]; rfl) | (simp [results, Try.results13, go_sem, hc1, hz1, l0, l1, l2]; rfl)) rfl ⟨by first | rfl | (simp_all [comp, Xf.k, Xf.b, Xf.c, encX, add, comp_b]; done) | (simp_all [comp, Xf.k, Xf.b, Xf.c, encX, add, comp_b, Int.add_comm]; done), (by repeat (first | exact Below.refl _ _ | refine Below.setCell ?_ (by first | (simp; done) | (simp; omega) | omega) _ | refine Below.alloc ?_ (by first | (simp; done) | (simp; omega) | omega) _ | (refine bstep (by assumption) ?_ (by first | (simp; done) | (simp; omega) | omega))))⟩
set_option maxHeartbeats 1000000 in
theorem CoS_bot_shf (b2 : Int)  (w : World) : Calls Try.prog 13 #[.agg #[.int .i64 4, .int .i64 0, .int .i64 0], .agg #[.int .i64 2, .int .i64 b2, .int .i64 0]] w fun e w' => e = .returned (encX (comp (Xf.bot) (Xf.shf b2))) ∧ Below w.heap.size w w' := by
  go_enter Try.func13, Try.ntmps13
  go_wp2_with fail
  all_goals exact bodyPost_ret (by first | (simp [results, Try.results13, go_sem]; done) | (simp [results, Try.results13, go_sem, hc1, hz1, l0, l1, l2]; done) | (simp [results, Try.results13, go_sem]; rfl) | (simp [results, Try.results13, go_sem, hc1, hz1, l0, l1, l2]; rfl)) rfl ⟨by first | rfl | (simp_all [comp, Xf.k, Xf.b, Xf.c, encX, add, comp_b]; done) | (simp_all [comp, Xf.k, Xf.b, Xf.c, encX, add, comp_b, Int.add_comm]; done), (by repeat (first | exact Below.refl _ _ | refine Below.setCell ?_ (by first | (simp; done) | (simp; omega) | omega) _ | refine Below.alloc ?_ (by first | (simp; done) | (simp; omega) | omega) _ | (refine bstep (by assumption) ?_ (by first | (simp; done) | (simp; omega) | omega))))⟩
set_option maxHeartbeats 1000000 in
theorem CoS_bot_mt (b2 c2 : Int)  (w : World) : Calls Try.prog 13 #[.agg #[.int .i64 4, .int .i64 0, .int .i64 0], .agg #[.int .i64 3, .int .i64 b2, .int .i64 c2]] w fun e w' => e = .returned (encX (comp (Xf.bot) (Xf.mt b2 c2))) ∧ Below w.heap.size w w' := by
  go_enter Try.func13, Try.ntmps13
  go_wp2_with fail
  all_goals exact bodyPost_ret (by first | (simp [results, Try.results13, go_sem]; done) | (simp [results, Try.results13, go_sem, hc1, hz1, l0, l1, l2]; done) | (simp [results, Try.results13, go_sem]; rfl) | (simp [results, Try.results13, go_sem, hc1, hz1, l0, l1, l2]; rfl)) rfl ⟨by first | rfl | (simp_all [comp, Xf.k, Xf.b, Xf.c, encX, add, comp_b]; done) | (simp_all [comp, Xf.k, Xf.b, Xf.c, encX, add, comp_b, Int.add_comm]; done), (by repeat (first | exact Below.refl _ _ | refine Below.setCell ?_ (by first | (simp; done) | (simp; omega) | omega) _ | refine Below.alloc ?_ (by first | (simp; done) | (simp; omega) | omega) _ | (refine bstep (by assumption) ?_ (by first | (simp; done) | (simp; omega) | omega))))⟩
set_option maxHeartbeats 1000000 in
theorem CoS_bot_bot   (w : World) : Calls Try.prog 13 #[.agg #[.int .i64 4, .int .i64 0, .int .i64 0], .agg #[.int .i64 4, .int .i64 0, .int .i64 0]] w fun e w' => e = .returned (encX (comp (Xf.bot) (Xf.bot))) ∧ Below w.heap.size w w' := by
  go_enter Try.func13, Try.ntmps13
  go_wp2_with fail
  all_goals exact bodyPost_ret (by first | (simp [results, Try.results13, go_sem]; done) | (simp [results, Try.results13, go_sem, hc1, hz1, l0, l1, l2]; done) | (simp [results, Try.results13, go_sem]; rfl) | (simp [results, Try.results13, go_sem, hc1, hz1, l0, l1, l2]; rfl)) rfl ⟨by first | rfl | (simp_all [comp, Xf.k, Xf.b, Xf.c, encX, add, comp_b]; done) | (simp_all [comp, Xf.k, Xf.b, Xf.c, encX, add, comp_b, Int.add_comm]; done), (by repeat (first | exact Below.refl _ _ | refine Below.setCell ?_ (by first | (simp; done) | (simp; omega) | omega) _ | refine Below.alloc ?_ (by first | (simp; done) | (simp; omega) | omega) _ | (refine bstep (by assumption) ?_ (by first | (simp; done) | (simp; omega) | omega))))⟩
set_option maxHeartbeats 1000000 in
theorem MeS_top_top   (w : World) : Calls Try.prog 15 #[.agg #[.int .i64 0, .int .i64 0, .int .i64 0], .agg #[.int .i64 0, .int .i64 0, .int .i64 0]] w fun e w' => e = .returned (encX (meet (Xf.top) (Xf.top))) ∧ Below w.heap.size w w' := by
  go_enter Try.func15, Try.ntmps15
  go_wp2_with fail
  all_goals exact bodyPost_ret (by first | (simp [results, Try.results15, go_sem]; done) | (simp [results, Try.results15, go_sem, hc1, hz1, l0, l1, l2]; done) | (simp [results, Try.results15, go_sem]; rfl) | (simp [results, Try.results15, go_sem, hc1, hz1, l0, l1, l2]; rfl)) rfl ⟨by first | rfl | (simp_all [meet, Xf.k, Xf.b, Xf.c, encX]; done) | (simp_all [meet, Xf.k, Xf.b, Xf.c, encX, Int.add_comm]; done), (by repeat (first | exact Below.refl _ _ | refine Below.setCell ?_ (by first | (simp; done) | (simp; omega) | omega) _ | refine Below.alloc ?_ (by first | (simp; done) | (simp; omega) | omega) _ | (refine bstep (by assumption) ?_ (by first | (simp; done) | (simp; omega) | omega))))⟩
set_option maxHeartbeats 1000000 in
theorem MeS_top_con (c2 : Int)  (w : World) : Calls Try.prog 15 #[.agg #[.int .i64 0, .int .i64 0, .int .i64 0], .agg #[.int .i64 1, .int .i64 0, .int .i64 c2]] w fun e w' => e = .returned (encX (meet (Xf.top) (Xf.con c2))) ∧ Below w.heap.size w w' := by
  go_enter Try.func15, Try.ntmps15
  go_wp2_with fail
  all_goals exact bodyPost_ret (by first | (simp [results, Try.results15, go_sem]; done) | (simp [results, Try.results15, go_sem, hc1, hz1, l0, l1, l2]; done) | (simp [results, Try.results15, go_sem]; rfl) | (simp [results, Try.results15, go_sem, hc1, hz1, l0, l1, l2]; rfl)) rfl ⟨by first | rfl | (simp_all [meet, Xf.k, Xf.b, Xf.c, encX]; done) | (simp_all [meet, Xf.k, Xf.b, Xf.c, encX, Int.add_comm]; done), (by repeat (first | exact Below.refl _ _ | refine Below.setCell ?_ (by first | (simp; done) | (simp; omega) | omega) _ | refine Below.alloc ?_ (by first | (simp; done) | (simp; omega) | omega) _ | (refine bstep (by assumption) ?_ (by first | (simp; done) | (simp; omega) | omega))))⟩
set_option maxHeartbeats 1000000 in
theorem MeS_top_shf (b2 : Int)  (w : World) : Calls Try.prog 15 #[.agg #[.int .i64 0, .int .i64 0, .int .i64 0], .agg #[.int .i64 2, .int .i64 b2, .int .i64 0]] w fun e w' => e = .returned (encX (meet (Xf.top) (Xf.shf b2))) ∧ Below w.heap.size w w' := by
  go_enter Try.func15, Try.ntmps15
  go_wp2_with fail
  all_goals exact bodyPost_ret (by first | (simp [results, Try.results15, go_sem]; done) | (simp [results, Try.results15, go_sem, hc1, hz1, l0, l1, l2]; done) | (simp [results, Try.results15, go_sem]; rfl) | (simp [results, Try.results15, go_sem, hc1, hz1, l0, l1, l2]; rfl)) rfl ⟨by first | rfl | (simp_all [meet, Xf.k, Xf.b, Xf.c, encX]; done) | (simp_all [meet, Xf.k, Xf.b, Xf.c, encX, Int.add_comm]; done), (by repeat (first | exact Below.refl _ _ | refine Below.setCell ?_ (by first | (simp; done) | (simp; omega) | omega) _ | refine Below.alloc ?_ (by first | (simp; done) | (simp; omega) | omega) _ | (refine bstep (by assumption) ?_ (by first | (simp; done) | (simp; omega) | omega))))⟩
set_option maxHeartbeats 1000000 in
theorem MeS_top_mt (b2 c2 : Int)  (w : World) : Calls Try.prog 15 #[.agg #[.int .i64 0, .int .i64 0, .int .i64 0], .agg #[.int .i64 3, .int .i64 b2, .int .i64 c2]] w fun e w' => e = .returned (encX (meet (Xf.top) (Xf.mt b2 c2))) ∧ Below w.heap.size w w' := by
  go_enter Try.func15, Try.ntmps15
  go_wp2_with fail
  all_goals exact bodyPost_ret (by first | (simp [results, Try.results15, go_sem]; done) | (simp [results, Try.results15, go_sem, hc1, hz1, l0, l1, l2]; done) | (simp [results, Try.results15, go_sem]; rfl) | (simp [results, Try.results15, go_sem, hc1, hz1, l0, l1, l2]; rfl)) rfl ⟨by first | rfl | (simp_all [meet, Xf.k, Xf.b, Xf.c, encX]; done) | (simp_all [meet, Xf.k, Xf.b, Xf.c, encX, Int.add_comm]; done), (by repeat (first | exact Below.refl _ _ | refine Below.setCell ?_ (by first | (simp; done) | (simp; omega) | omega) _ | refine Below.alloc ?_ (by first | (simp; done) | (simp; omega) | omega) _ | (refine bstep (by assumption) ?_ (by first | (simp; done) | (simp; omega) | omega))))⟩
set_option maxHeartbeats 1000000 in
theorem MeS_top_bot   (w : World) : Calls Try.prog 15 #[.agg #[.int .i64 0, .int .i64 0, .int .i64 0], .agg #[.int .i64 4, .int .i64 0, .int .i64 0]] w fun e w' => e = .returned (encX (meet (Xf.top) (Xf.bot))) ∧ Below w.heap.size w w' := by
  go_enter Try.func15, Try.ntmps15
  go_wp2_with fail
  all_goals exact bodyPost_ret (by first | (simp [results, Try.results15, go_sem]; done) | (simp [results, Try.results15, go_sem, hc1, hz1, l0, l1, l2]; done) | (simp [results, Try.results15, go_sem]; rfl) | (simp [results, Try.results15, go_sem, hc1, hz1, l0, l1, l2]; rfl)) rfl ⟨by first | rfl | (simp_all [meet, Xf.k, Xf.b, Xf.c, encX]; done) | (simp_all [meet, Xf.k, Xf.b, Xf.c, encX, Int.add_comm]; done), (by repeat (first | exact Below.refl _ _ | refine Below.setCell ?_ (by first | (simp; done) | (simp; omega) | omega) _ | refine Below.alloc ?_ (by first | (simp; done) | (simp; omega) | omega) _ | (refine bstep (by assumption) ?_ (by first | (simp; done) | (simp; omega) | omega))))⟩
set_option maxHeartbeats 1000000 in
theorem MeS_con_top (c1 : Int)  (w : World) : Calls Try.prog 15 #[.agg #[.int .i64 1, .int .i64 0, .int .i64 c1], .agg #[.int .i64 0, .int .i64 0, .int .i64 0]] w fun e w' => e = .returned (encX (meet (Xf.con c1) (Xf.top))) ∧ Below w.heap.size w w' := by
  go_enter Try.func15, Try.ntmps15
  go_wp2_with fail
  all_goals exact bodyPost_ret (by first | (simp [results, Try.results15, go_sem]; done) | (simp [results, Try.results15, go_sem, hc1, hz1, l0, l1, l2]; done) | (simp [results, Try.results15, go_sem]; rfl) | (simp [results, Try.results15, go_sem, hc1, hz1, l0, l1, l2]; rfl)) rfl ⟨by first | rfl | (simp_all [meet, Xf.k, Xf.b, Xf.c, encX]; done) | (simp_all [meet, Xf.k, Xf.b, Xf.c, encX, Int.add_comm]; done), (by repeat (first | exact Below.refl _ _ | refine Below.setCell ?_ (by first | (simp; done) | (simp; omega) | omega) _ | refine Below.alloc ?_ (by first | (simp; done) | (simp; omega) | omega) _ | (refine bstep (by assumption) ?_ (by first | (simp; done) | (simp; omega) | omega))))⟩
set_option maxHeartbeats 1000000 in
theorem MeS_con_con (c1 c2 : Int)  (w : World) : Calls Try.prog 15 #[.agg #[.int .i64 1, .int .i64 0, .int .i64 c1], .agg #[.int .i64 1, .int .i64 0, .int .i64 c2]] w fun e w' => e = .returned (encX (meet (Xf.con c1) (Xf.con c2))) ∧ Below w.heap.size w w' := by
  go_enter Try.func15, Try.ntmps15
  go_wp2_with fail
  all_goals exact bodyPost_ret (by first | (simp [results, Try.results15, go_sem]; done) | (simp [results, Try.results15, go_sem, hc1, hz1, l0, l1, l2]; done) | (simp [results, Try.results15, go_sem]; rfl) | (simp [results, Try.results15, go_sem, hc1, hz1, l0, l1, l2]; rfl)) rfl ⟨by first | rfl | (simp_all [meet, Xf.k, Xf.b, Xf.c, encX]; done) | (simp_all [meet, Xf.k, Xf.b, Xf.c, encX, Int.add_comm]; done), (by repeat (first | exact Below.refl _ _ | refine Below.setCell ?_ (by first | (simp; done) | (simp; omega) | omega) _ | refine Below.alloc ?_ (by first | (simp; done) | (simp; omega) | omega) _ | (refine bstep (by assumption) ?_ (by first | (simp; done) | (simp; omega) | omega))))⟩
set_option maxHeartbeats 1000000 in
theorem MeS_con_shf (c1 b2 : Int)  (w : World) : Calls Try.prog 15 #[.agg #[.int .i64 1, .int .i64 0, .int .i64 c1], .agg #[.int .i64 2, .int .i64 b2, .int .i64 0]] w fun e w' => e = .returned (encX (meet (Xf.con c1) (Xf.shf b2))) ∧ Below w.heap.size w w' := by
  go_enter Try.func15, Try.ntmps15
  go_wp2_with fail
  all_goals exact bodyPost_ret (by first | (simp [results, Try.results15, go_sem]; done) | (simp [results, Try.results15, go_sem, hc1, hz1, l0, l1, l2]; done) | (simp [results, Try.results15, go_sem]; rfl) | (simp [results, Try.results15, go_sem, hc1, hz1, l0, l1, l2]; rfl)) rfl ⟨by first | rfl | (simp_all [meet, Xf.k, Xf.b, Xf.c, encX]; done) | (simp_all [meet, Xf.k, Xf.b, Xf.c, encX, Int.add_comm]; done), (by repeat (first | exact Below.refl _ _ | refine Below.setCell ?_ (by first | (simp; done) | (simp; omega) | omega) _ | refine Below.alloc ?_ (by first | (simp; done) | (simp; omega) | omega) _ | (refine bstep (by assumption) ?_ (by first | (simp; done) | (simp; omega) | omega))))⟩
set_option maxHeartbeats 1000000 in
theorem MeS_con_mt (c1 b2 c2 : Int)  (w : World) : Calls Try.prog 15 #[.agg #[.int .i64 1, .int .i64 0, .int .i64 c1], .agg #[.int .i64 3, .int .i64 b2, .int .i64 c2]] w fun e w' => e = .returned (encX (meet (Xf.con c1) (Xf.mt b2 c2))) ∧ Below w.heap.size w w' := by
  go_enter Try.func15, Try.ntmps15
  go_wp2_with fail
  all_goals exact bodyPost_ret (by first | (simp [results, Try.results15, go_sem]; done) | (simp [results, Try.results15, go_sem, hc1, hz1, l0, l1, l2]; done) | (simp [results, Try.results15, go_sem]; rfl) | (simp [results, Try.results15, go_sem, hc1, hz1, l0, l1, l2]; rfl)) rfl ⟨by first | rfl | (simp_all [meet, Xf.k, Xf.b, Xf.c, encX]; done) | (simp_all [meet, Xf.k, Xf.b, Xf.c, encX, Int.add_comm]; done), (by repeat (first | exact Below.refl _ _ | refine Below.setCell ?_ (by first | (simp; done) | (simp; omega) | omega) _ | refine Below.alloc ?_ (by first | (simp; done) | (simp; omega) | omega) _ | (refine bstep (by assumption) ?_ (by first | (simp; done) | (simp; omega) | omega))))⟩
set_option maxHeartbeats 1000000 in
theorem MeS_con_bot (c1 : Int)  (w : World) : Calls Try.prog 15 #[.agg #[.int .i64 1, .int .i64 0, .int .i64 c1], .agg #[.int .i64 4, .int .i64 0, .int .i64 0]] w fun e w' => e = .returned (encX (meet (Xf.con c1) (Xf.bot))) ∧ Below w.heap.size w w' := by
  go_enter Try.func15, Try.ntmps15
  go_wp2_with fail
  all_goals exact bodyPost_ret (by first | (simp [results, Try.results15, go_sem]; done) | (simp [results, Try.results15, go_sem, hc1, hz1, l0, l1, l2]; done) | (simp [results, Try.results15, go_sem]; rfl) | (simp [results, Try.results15, go_sem, hc1, hz1, l0, l1, l2]; rfl)) rfl ⟨by first | rfl | (simp_all [meet, Xf.k, Xf.b, Xf.c, encX]; done) | (simp_all [meet, Xf.k, Xf.b, Xf.c, encX, Int.add_comm]; done), (by repeat (first | exact Below.refl _ _ | refine Below.setCell ?_ (by first | (simp; done) | (simp; omega) | omega) _ | refine Below.alloc ?_ (by first | (simp; done) | (simp; omega) | omega) _ | (refine bstep (by assumption) ?_ (by first | (simp; done) | (simp; omega) | omega))))⟩
set_option maxHeartbeats 1000000 in
theorem MeS_shf_top (b1 : Int)  (w : World) : Calls Try.prog 15 #[.agg #[.int .i64 2, .int .i64 b1, .int .i64 0], .agg #[.int .i64 0, .int .i64 0, .int .i64 0]] w fun e w' => e = .returned (encX (meet (Xf.shf b1) (Xf.top))) ∧ Below w.heap.size w w' := by
  go_enter Try.func15, Try.ntmps15
  go_wp2_with fail
  all_goals exact bodyPost_ret (by first | (simp [results, Try.results15, go_sem]; done) | (simp [results, Try.results15, go_sem, hc1, hz1, l0, l1, l2]; done) | (simp [results, Try.results15, go_sem]; rfl) | (simp [results, Try.results15, go_sem, hc1, hz1, l0, l1, l2]; rfl)) rfl ⟨by first | rfl | (simp_all [meet, Xf.k, Xf.b, Xf.c, encX]; done) | (simp_all [meet, Xf.k, Xf.b, Xf.c, encX, Int.add_comm]; done), (by repeat (first | exact Below.refl _ _ | refine Below.setCell ?_ (by first | (simp; done) | (simp; omega) | omega) _ | refine Below.alloc ?_ (by first | (simp; done) | (simp; omega) | omega) _ | (refine bstep (by assumption) ?_ (by first | (simp; done) | (simp; omega) | omega))))⟩
set_option maxHeartbeats 1000000 in
theorem MeS_shf_shf (b1 b2 : Int)  (w : World) : Calls Try.prog 15 #[.agg #[.int .i64 2, .int .i64 b1, .int .i64 0], .agg #[.int .i64 2, .int .i64 b2, .int .i64 0]] w fun e w' => e = .returned (encX (meet (Xf.shf b1) (Xf.shf b2))) ∧ Below w.heap.size w w' := by
  go_enter Try.func15, Try.ntmps15
  go_wp2_with fail
  all_goals exact bodyPost_ret (by first | (simp [results, Try.results15, go_sem]; done) | (simp [results, Try.results15, go_sem, hc1, hz1, l0, l1, l2]; done) | (simp [results, Try.results15, go_sem]; rfl) | (simp [results, Try.results15, go_sem, hc1, hz1, l0, l1, l2]; rfl)) rfl ⟨by first | rfl | (simp_all [meet, Xf.k, Xf.b, Xf.c, encX]; done) | (simp_all [meet, Xf.k, Xf.b, Xf.c, encX, Int.add_comm]; done), (by repeat (first | exact Below.refl _ _ | refine Below.setCell ?_ (by first | (simp; done) | (simp; omega) | omega) _ | refine Below.alloc ?_ (by first | (simp; done) | (simp; omega) | omega) _ | (refine bstep (by assumption) ?_ (by first | (simp; done) | (simp; omega) | omega))))⟩
set_option maxHeartbeats 1000000 in
theorem MeS_shf_mt (b1 b2 c2 : Int)  (w : World) : Calls Try.prog 15 #[.agg #[.int .i64 2, .int .i64 b1, .int .i64 0], .agg #[.int .i64 3, .int .i64 b2, .int .i64 c2]] w fun e w' => e = .returned (encX (meet (Xf.shf b1) (Xf.mt b2 c2))) ∧ Below w.heap.size w w' := by
  go_enter Try.func15, Try.ntmps15
  go_wp2_with fail
  all_goals exact bodyPost_ret (by first | (simp [results, Try.results15, go_sem]; done) | (simp [results, Try.results15, go_sem, hc1, hz1, l0, l1, l2]; done) | (simp [results, Try.results15, go_sem]; rfl) | (simp [results, Try.results15, go_sem, hc1, hz1, l0, l1, l2]; rfl)) rfl ⟨by first | rfl | (simp_all [meet, Xf.k, Xf.b, Xf.c, encX]; done) | (simp_all [meet, Xf.k, Xf.b, Xf.c, encX, Int.add_comm]; done), (by repeat (first | exact Below.refl _ _ | refine Below.setCell ?_ (by first | (simp; done) | (simp; omega) | omega) _ | refine Below.alloc ?_ (by first | (simp; done) | (simp; omega) | omega) _ | (refine bstep (by assumption) ?_ (by first | (simp; done) | (simp; omega) | omega))))⟩
set_option maxHeartbeats 1000000 in
theorem MeS_shf_bot (b1 : Int)  (w : World) : Calls Try.prog 15 #[.agg #[.int .i64 2, .int .i64 b1, .int .i64 0], .agg #[.int .i64 4, .int .i64 0, .int .i64 0]] w fun e w' => e = .returned (encX (meet (Xf.shf b1) (Xf.bot))) ∧ Below w.heap.size w w' := by
  go_enter Try.func15, Try.ntmps15
  go_wp2_with fail
  all_goals exact bodyPost_ret (by first | (simp [results, Try.results15, go_sem]; done) | (simp [results, Try.results15, go_sem, hc1, hz1, l0, l1, l2]; done) | (simp [results, Try.results15, go_sem]; rfl) | (simp [results, Try.results15, go_sem, hc1, hz1, l0, l1, l2]; rfl)) rfl ⟨by first | rfl | (simp_all [meet, Xf.k, Xf.b, Xf.c, encX]; done) | (simp_all [meet, Xf.k, Xf.b, Xf.c, encX, Int.add_comm]; done), (by repeat (first | exact Below.refl _ _ | refine Below.setCell ?_ (by first | (simp; done) | (simp; omega) | omega) _ | refine Below.alloc ?_ (by first | (simp; done) | (simp; omega) | omega) _ | (refine bstep (by assumption) ?_ (by first | (simp; done) | (simp; omega) | omega))))⟩
set_option maxHeartbeats 1000000 in
theorem MeS_mt_top (b1 c1 : Int)  (w : World) : Calls Try.prog 15 #[.agg #[.int .i64 3, .int .i64 b1, .int .i64 c1], .agg #[.int .i64 0, .int .i64 0, .int .i64 0]] w fun e w' => e = .returned (encX (meet (Xf.mt b1 c1) (Xf.top))) ∧ Below w.heap.size w w' := by
  go_enter Try.func15, Try.ntmps15
  go_wp2_with fail
  all_goals exact bodyPost_ret (by first | (simp [results, Try.results15, go_sem]; done) | (simp [results, Try.results15, go_sem, hc1, hz1, l0, l1, l2]; done) | (simp [results, Try.results15, go_sem]; rfl) | (simp [results, Try.results15, go_sem, hc1, hz1, l0, l1, l2]; rfl)) rfl ⟨by first | rfl | (simp_all [meet, Xf.k, Xf.b, Xf.c, encX]; done) | (simp_all [meet, Xf.k, Xf.b, Xf.c, encX, Int.add_comm]; done), (by repeat (first | exact Below.refl _ _ | refine Below.setCell ?_ (by first | (simp; done) | (simp; omega) | omega) _ | refine Below.alloc ?_ (by first | (simp; done) | (simp; omega) | omega) _ | (refine bstep (by assumption) ?_ (by first | (simp; done) | (simp; omega) | omega))))⟩
set_option maxHeartbeats 1000000 in
theorem MeSN_mt_mt (b1 c1 b2 c2 : Int) (h : (b1 == b2 && (c1 == c2)) = false) (w : World) : Calls Try.prog 15 #[.agg #[.int .i64 3, .int .i64 b1, .int .i64 c1], .agg #[.int .i64 3, .int .i64 b2, .int .i64 c2]] w fun e w' => e = .returned (encX (meet (Xf.mt b1 c1) (Xf.mt b2 c2))) ∧ Below w.heap.size w w' := by
  have hb12 : ¬ (b1 = b2 ∧ c1 = c2) := by simpa using h
  have HE : encX (meet (Xf.mt b1 c1) (Xf.mt b2 c2)) = .agg #[.int .i64 4, .int .i64 0, .int .i64 0] := by simp [meet, hb12, encX, Xf.k, Xf.b, Xf.c]
  rw [HE]
  clear HE hb12
  go_enter Try.func15, Try.ntmps15
  go_wp2_with fail
  all_goals exact bodyPost_ret (by first | (simp [results, Try.results15, go_sem]; done) | (simp [results, Try.results15, go_sem, hc1, hz1, l0, l1, l2]; done) | (simp [results, Try.results15, go_sem]; rfl) | (simp [results, Try.results15, go_sem, hc1, hz1, l0, l1, l2]; rfl)) rfl ⟨by first | rfl | (simp_all [meet, Xf.k, Xf.b, Xf.c, encX]; done) | (simp_all [meet, Xf.k, Xf.b, Xf.c, encX, Int.add_comm]; done), (by repeat (first | exact Below.refl _ _ | refine Below.setCell ?_ (by first | (simp; done) | (simp; omega) | omega) _ | refine Below.alloc ?_ (by first | (simp; done) | (simp; omega) | omega) _ | (refine bstep (by assumption) ?_ (by first | (simp; done) | (simp; omega) | omega))))⟩
set_option maxHeartbeats 1000000 in
theorem MeSE_mt_mt (b1 c1 : Int) (w : World) : Calls Try.prog 15 #[.agg #[.int .i64 3, .int .i64 b1, .int .i64 c1], .agg #[.int .i64 3, .int .i64 b1, .int .i64 c1]] w fun e w' => e = .returned (encX (meet (Xf.mt b1 c1) (Xf.mt b1 c1))) ∧ Below w.heap.size w w' := by
  go_enter Try.func15, Try.ntmps15
  go_wp2_with fail
  all_goals exact bodyPost_ret (by first | (simp [results, Try.results15, go_sem]; done) | (simp [results, Try.results15, go_sem, hc1, hz1, l0, l1, l2]; done) | (simp [results, Try.results15, go_sem]; rfl) | (simp [results, Try.results15, go_sem, hc1, hz1, l0, l1, l2]; rfl)) rfl ⟨by first | rfl | (simp_all [meet, Xf.k, Xf.b, Xf.c, encX]; done) | (simp_all [meet, Xf.k, Xf.b, Xf.c, encX, Int.add_comm]; done), (by repeat (first | exact Below.refl _ _ | refine Below.setCell ?_ (by first | (simp; done) | (simp; omega) | omega) _ | refine Below.alloc ?_ (by first | (simp; done) | (simp; omega) | omega) _ | (refine bstep (by assumption) ?_ (by first | (simp; done) | (simp; omega) | omega))))⟩
theorem MeS_mt_mt (b1 c1 b2 c2 : Int) (w : World) : Calls Try.prog 15 #[.agg #[.int .i64 3, .int .i64 b1, .int .i64 c1], .agg #[.int .i64 3, .int .i64 b2, .int .i64 c2]] w fun e w' => e = .returned (encX (meet (Xf.mt b1 c1) (Xf.mt b2 c2))) ∧ Below w.heap.size w w' := by
  cases h : (b1 == b2 && (c1 == c2)) with
  | true =>
    obtain ⟨rfl, rfl⟩ : b1 = b2 ∧ c1 = c2 := by simpa using h
    exact MeSE_mt_mt _ _ _
  | false => exact MeSN_mt_mt _ _ _ _ h _
set_option maxHeartbeats 1000000 in
theorem MeS_mt_bot (b1 c1 : Int)  (w : World) : Calls Try.prog 15 #[.agg #[.int .i64 3, .int .i64 b1, .int .i64 c1], .agg #[.int .i64 4, .int .i64 0, .int .i64 0]] w fun e w' => e = .returned (encX (meet (Xf.mt b1 c1) (Xf.bot))) ∧ Below w.heap.size w w' := by
  go_enter Try.func15, Try.ntmps15
  go_wp2_with fail
  all_goals exact bodyPost_ret (by first | (simp [results, Try.results15, go_sem]; done) | (simp [results, Try.results15, go_sem, hc1, hz1, l0, l1, l2]; done) | (simp [results, Try.results15, go_sem]; rfl) | (simp [results, Try.results15, go_sem, hc1, hz1, l0, l1, l2]; rfl)) rfl ⟨by first | rfl | (simp_all [meet, Xf.k, Xf.b, Xf.c, encX]; done) | (simp_all [meet, Xf.k, Xf.b, Xf.c, encX, Int.add_comm]; done), (by repeat (first | exact Below.refl _ _ | refine Below.setCell ?_ (by first | (simp; done) | (simp; omega) | omega) _ | refine Below.alloc ?_ (by first | (simp; done) | (simp; omega) | omega) _ | (refine bstep (by assumption) ?_ (by first | (simp; done) | (simp; omega) | omega))))⟩
set_option maxHeartbeats 1000000 in
theorem MeS_bot_top   (w : World) : Calls Try.prog 15 #[.agg #[.int .i64 4, .int .i64 0, .int .i64 0], .agg #[.int .i64 0, .int .i64 0, .int .i64 0]] w fun e w' => e = .returned (encX (meet (Xf.bot) (Xf.top))) ∧ Below w.heap.size w w' := by
  go_enter Try.func15, Try.ntmps15
  go_wp2_with fail
  all_goals exact bodyPost_ret (by first | (simp [results, Try.results15, go_sem]; done) | (simp [results, Try.results15, go_sem, hc1, hz1, l0, l1, l2]; done) | (simp [results, Try.results15, go_sem]; rfl) | (simp [results, Try.results15, go_sem, hc1, hz1, l0, l1, l2]; rfl)) rfl ⟨by first | rfl | (simp_all [meet, Xf.k, Xf.b, Xf.c, encX]; done) | (simp_all [meet, Xf.k, Xf.b, Xf.c, encX, Int.add_comm]; done), (by repeat (first | exact Below.refl _ _ | refine Below.setCell ?_ (by first | (simp; done) | (simp; omega) | omega) _ | refine Below.alloc ?_ (by first | (simp; done) | (simp; omega) | omega) _ | (refine bstep (by assumption) ?_ (by first | (simp; done) | (simp; omega) | omega))))⟩
set_option maxHeartbeats 1000000 in
theorem MeS_bot_bot   (w : World) : Calls Try.prog 15 #[.agg #[.int .i64 4, .int .i64 0, .int .i64 0], .agg #[.int .i64 4, .int .i64 0, .int .i64 0]] w fun e w' => e = .returned (encX (meet (Xf.bot) (Xf.bot))) ∧ Below w.heap.size w w' := by
  go_enter Try.func15, Try.ntmps15
  go_wp2_with fail
  all_goals exact bodyPost_ret (by first | (simp [results, Try.results15, go_sem]; done) | (simp [results, Try.results15, go_sem, hc1, hz1, l0, l1, l2]; done) | (simp [results, Try.results15, go_sem]; rfl) | (simp [results, Try.results15, go_sem, hc1, hz1, l0, l1, l2]; rfl)) rfl ⟨by first | rfl | (simp_all [meet, Xf.k, Xf.b, Xf.c, encX]; done) | (simp_all [meet, Xf.k, Xf.b, Xf.c, encX, Int.add_comm]; done), (by repeat (first | exact Below.refl _ _ | refine Below.setCell ?_ (by first | (simp; done) | (simp; omega) | omega) _ | refine Below.alloc ?_ (by first | (simp; done) | (simp; omega) | omega) _ | (refine bstep (by assumption) ?_ (by first | (simp; done) | (simp; omega) | omega))))⟩
theorem MeSW_con_shf (c2 b1 : Int) (w : World) : Calls Try.prog 15 #[.agg #[.int .i64 1, .int .i64 0, .int .i64 c2], .agg #[.int .i64 2, .int .i64 b1, .int .i64 0]] w fun e w' => e = .returned (.agg #[.int .i64 (meet (Xf.shf b1) (Xf.con c2)).k, .int .i64 (meet (Xf.shf b1) (Xf.con c2)).b, .int .i64 (meet (Xf.shf b1) (Xf.con c2)).c]) ∧ Below w.heap.size w w' := by
  have h := MeS_con_shf c2 b1 w
  rw [meet_comm] at h
  exact h
set_option maxHeartbeats 1000000 in
theorem MeS_shf_con (b1 c2 : Int)  (w : World) : Calls Try.prog 15 #[.agg #[.int .i64 2, .int .i64 b1, .int .i64 0], .agg #[.int .i64 1, .int .i64 0, .int .i64 c2]] w fun e w' => e = .returned (encX (meet (Xf.shf b1) (Xf.con c2))) ∧ Below w.heap.size w w' := by
  go_enter Try.func15, Try.ntmps15
  go_wp2_with (go_at_call 15; ((with_reducible refine (MeSW_con_shf _ _ _).mono ?_)); rintro e w1 ⟨rfl, hb⟩; obtain ⟨hc1, hf1⟩ := bcell hb; have hz1 := hb.size; (try simp at hz1); have l0 : w.heap.size < w1.heap.size := (by omega); have l1 : w.heap.size + 1 < w1.heap.size := (by omega); have l2 : w.heap.size + 1 + 1 < w1.heap.size := (by omega))
  all_goals exact bodyPost_ret (by first | (simp [results, Try.results15, go_sem]; done) | (simp [results, Try.results15, go_sem, hc1, hz1, l0, l1, l2]; done) | (simp [results, Try.results15, go_sem]; rfl) | (simp [results, Try.results15, go_sem, hc1, hz1, l0, l1, l2]; rfl)) rfl ⟨by first | rfl | (simp_all [encX]; done) | (simp_all [encX, Int.add_comm]; done), (by repeat (first | exact Below.refl _ _ | refine Below.setCell ?_ (by first | (simp; done) | (simp; omega) | omega) _ | refine Below.alloc ?_ (by first | (simp; done) | (simp; omega) | omega) _ | (refine bstep (by assumption) ?_ (by first | (simp; done) | (simp; omega) | omega))))⟩
theorem MeSW_con_mt (c2 b1 c1 : Int) (w : World) : Calls Try.prog 15 #[.agg #[.int .i64 1, .int .i64 0, .int .i64 c2], .agg #[.int .i64 3, .int .i64 b1, .int .i64 c1]] w fun e w' => e = .returned (.agg #[.int .i64 (meet (Xf.mt b1 c1) (Xf.con c2)).k, .int .i64 (meet (Xf.mt b1 c1) (Xf.con c2)).b, .int .i64 (meet (Xf.mt b1 c1) (Xf.con c2)).c]) ∧ Below w.heap.size w w' := by
  have h := MeS_con_mt c2 b1 c1 w
  rw [meet_comm] at h
  exact h
set_option maxHeartbeats 1000000 in
theorem MeS_mt_con (b1 c1 c2 : Int)  (w : World) : Calls Try.prog 15 #[.agg #[.int .i64 3, .int .i64 b1, .int .i64 c1], .agg #[.int .i64 1, .int .i64 0, .int .i64 c2]] w fun e w' => e = .returned (encX (meet (Xf.mt b1 c1) (Xf.con c2))) ∧ Below w.heap.size w w' := by
  go_enter Try.func15, Try.ntmps15
  go_wp2_with (go_at_call 15; ((with_reducible refine (MeSW_con_mt _ _ _ _).mono ?_)); rintro e w1 ⟨rfl, hb⟩; obtain ⟨hc1, hf1⟩ := bcell hb; have hz1 := hb.size; (try simp at hz1); have l0 : w.heap.size < w1.heap.size := (by omega); have l1 : w.heap.size + 1 < w1.heap.size := (by omega); have l2 : w.heap.size + 1 + 1 < w1.heap.size := (by omega))
  all_goals exact bodyPost_ret (by first | (simp [results, Try.results15, go_sem]; done) | (simp [results, Try.results15, go_sem, hc1, hz1, l0, l1, l2]; done) | (simp [results, Try.results15, go_sem]; rfl) | (simp [results, Try.results15, go_sem, hc1, hz1, l0, l1, l2]; rfl)) rfl ⟨by first | rfl | (simp_all [encX]; done) | (simp_all [encX, Int.add_comm]; done), (by repeat (first | exact Below.refl _ _ | refine Below.setCell ?_ (by first | (simp; done) | (simp; omega) | omega) _ | refine Below.alloc ?_ (by first | (simp; done) | (simp; omega) | omega) _ | (refine bstep (by assumption) ?_ (by first | (simp; done) | (simp; omega) | omega))))⟩
theorem MeSW_shf_mt (b2 b1 c1 : Int) (w : World) : Calls Try.prog 15 #[.agg #[.int .i64 2, .int .i64 b2, .int .i64 0], .agg #[.int .i64 3, .int .i64 b1, .int .i64 c1]] w fun e w' => e = .returned (.agg #[.int .i64 (meet (Xf.mt b1 c1) (Xf.shf b2)).k, .int .i64 (meet (Xf.mt b1 c1) (Xf.shf b2)).b, .int .i64 (meet (Xf.mt b1 c1) (Xf.shf b2)).c]) ∧ Below w.heap.size w w' := by
  have h := MeS_shf_mt b2 b1 c1 w
  rw [meet_comm] at h
  exact h
set_option maxHeartbeats 1000000 in
theorem MeS_mt_shf (b1 c1 b2 : Int)  (w : World) : Calls Try.prog 15 #[.agg #[.int .i64 3, .int .i64 b1, .int .i64 c1], .agg #[.int .i64 2, .int .i64 b2, .int .i64 0]] w fun e w' => e = .returned (encX (meet (Xf.mt b1 c1) (Xf.shf b2))) ∧ Below w.heap.size w w' := by
  go_enter Try.func15, Try.ntmps15
  go_wp2_with (go_at_call 15; ((with_reducible refine (MeSW_shf_mt _ _ _ _).mono ?_)); rintro e w1 ⟨rfl, hb⟩; obtain ⟨hc1, hf1⟩ := bcell hb; have hz1 := hb.size; (try simp at hz1); have l0 : w.heap.size < w1.heap.size := (by omega); have l1 : w.heap.size + 1 < w1.heap.size := (by omega); have l2 : w.heap.size + 1 + 1 < w1.heap.size := (by omega))
  all_goals exact bodyPost_ret (by first | (simp [results, Try.results15, go_sem]; done) | (simp [results, Try.results15, go_sem, hc1, hz1, l0, l1, l2]; done) | (simp [results, Try.results15, go_sem]; rfl) | (simp [results, Try.results15, go_sem, hc1, hz1, l0, l1, l2]; rfl)) rfl ⟨by first | rfl | (simp_all [encX]; done) | (simp_all [encX, Int.add_comm]; done), (by repeat (first | exact Below.refl _ _ | refine Below.setCell ?_ (by first | (simp; done) | (simp; omega) | omega) _ | refine Below.alloc ?_ (by first | (simp; done) | (simp; omega) | omega) _ | (refine bstep (by assumption) ?_ (by first | (simp; done) | (simp; omega) | omega))))⟩
theorem MeSW_con_bot (c2 : Int) (w : World) : Calls Try.prog 15 #[.agg #[.int .i64 1, .int .i64 0, .int .i64 c2], .agg #[.int .i64 4, .int .i64 0, .int .i64 0]] w fun e w' => e = .returned (.agg #[.int .i64 (meet (Xf.bot) (Xf.con c2)).k, .int .i64 (meet (Xf.bot) (Xf.con c2)).b, .int .i64 (meet (Xf.bot) (Xf.con c2)).c]) ∧ Below w.heap.size w w' := by
  have h := MeS_con_bot c2 w
  rw [meet_comm] at h
  exact h
set_option maxHeartbeats 1000000 in
theorem MeS_bot_con (c2 : Int)  (w : World) : Calls Try.prog 15 #[.agg #[.int .i64 4, .int .i64 0, .int .i64 0], .agg #[.int .i64 1, .int .i64 0, .int .i64 c2]] w fun e w' => e = .returned (encX (meet (Xf.bot) (Xf.con c2))) ∧ Below w.heap.size w w' := by
  go_enter Try.func15, Try.ntmps15
  go_wp2_with (go_at_call 15; ((with_reducible refine (MeSW_con_bot _ _).mono ?_)); rintro e w1 ⟨rfl, hb⟩; obtain ⟨hc1, hf1⟩ := bcell hb; have hz1 := hb.size; (try simp at hz1); have l0 : w.heap.size < w1.heap.size := (by omega); have l1 : w.heap.size + 1 < w1.heap.size := (by omega); have l2 : w.heap.size + 1 + 1 < w1.heap.size := (by omega))
  all_goals exact bodyPost_ret (by first | (simp [results, Try.results15, go_sem]; done) | (simp [results, Try.results15, go_sem, hc1, hz1, l0, l1, l2]; done) | (simp [results, Try.results15, go_sem]; rfl) | (simp [results, Try.results15, go_sem, hc1, hz1, l0, l1, l2]; rfl)) rfl ⟨by first | rfl | (simp_all [encX]; done) | (simp_all [encX, Int.add_comm]; done), (by repeat (first | exact Below.refl _ _ | refine Below.setCell ?_ (by first | (simp; done) | (simp; omega) | omega) _ | refine Below.alloc ?_ (by first | (simp; done) | (simp; omega) | omega) _ | (refine bstep (by assumption) ?_ (by first | (simp; done) | (simp; omega) | omega))))⟩
theorem MeSW_shf_bot (b2 : Int) (w : World) : Calls Try.prog 15 #[.agg #[.int .i64 2, .int .i64 b2, .int .i64 0], .agg #[.int .i64 4, .int .i64 0, .int .i64 0]] w fun e w' => e = .returned (.agg #[.int .i64 (meet (Xf.bot) (Xf.shf b2)).k, .int .i64 (meet (Xf.bot) (Xf.shf b2)).b, .int .i64 (meet (Xf.bot) (Xf.shf b2)).c]) ∧ Below w.heap.size w w' := by
  have h := MeS_shf_bot b2 w
  rw [meet_comm] at h
  exact h
set_option maxHeartbeats 1000000 in
theorem MeS_bot_shf (b2 : Int)  (w : World) : Calls Try.prog 15 #[.agg #[.int .i64 4, .int .i64 0, .int .i64 0], .agg #[.int .i64 2, .int .i64 b2, .int .i64 0]] w fun e w' => e = .returned (encX (meet (Xf.bot) (Xf.shf b2))) ∧ Below w.heap.size w w' := by
  go_enter Try.func15, Try.ntmps15
  go_wp2_with (go_at_call 15; ((with_reducible refine (MeSW_shf_bot _ _).mono ?_)); rintro e w1 ⟨rfl, hb⟩; obtain ⟨hc1, hf1⟩ := bcell hb; have hz1 := hb.size; (try simp at hz1); have l0 : w.heap.size < w1.heap.size := (by omega); have l1 : w.heap.size + 1 < w1.heap.size := (by omega); have l2 : w.heap.size + 1 + 1 < w1.heap.size := (by omega))
  all_goals exact bodyPost_ret (by first | (simp [results, Try.results15, go_sem]; done) | (simp [results, Try.results15, go_sem, hc1, hz1, l0, l1, l2]; done) | (simp [results, Try.results15, go_sem]; rfl) | (simp [results, Try.results15, go_sem, hc1, hz1, l0, l1, l2]; rfl)) rfl ⟨by first | rfl | (simp_all [encX]; done) | (simp_all [encX, Int.add_comm]; done), (by repeat (first | exact Below.refl _ _ | refine Below.setCell ?_ (by first | (simp; done) | (simp; omega) | omega) _ | refine Below.alloc ?_ (by first | (simp; done) | (simp; omega) | omega) _ | (refine bstep (by assumption) ?_ (by first | (simp; done) | (simp; omega) | omega))))⟩
theorem MeSW_mt_bot (b2 c2 : Int) (w : World) : Calls Try.prog 15 #[.agg #[.int .i64 3, .int .i64 b2, .int .i64 c2], .agg #[.int .i64 4, .int .i64 0, .int .i64 0]] w fun e w' => e = .returned (.agg #[.int .i64 (meet (Xf.bot) (Xf.mt b2 c2)).k, .int .i64 (meet (Xf.bot) (Xf.mt b2 c2)).b, .int .i64 (meet (Xf.bot) (Xf.mt b2 c2)).c]) ∧ Below w.heap.size w w' := by
  have h := MeS_mt_bot b2 c2 w
  rw [meet_comm] at h
  exact h
set_option maxHeartbeats 1000000 in
theorem MeS_bot_mt (b2 c2 : Int)  (w : World) : Calls Try.prog 15 #[.agg #[.int .i64 4, .int .i64 0, .int .i64 0], .agg #[.int .i64 3, .int .i64 b2, .int .i64 c2]] w fun e w' => e = .returned (encX (meet (Xf.bot) (Xf.mt b2 c2))) ∧ Below w.heap.size w w' := by
  go_enter Try.func15, Try.ntmps15
  go_wp2_with (go_at_call 15; ((with_reducible refine (MeSW_mt_bot _ _ _).mono ?_)); rintro e w1 ⟨rfl, hb⟩; obtain ⟨hc1, hf1⟩ := bcell hb; have hz1 := hb.size; (try simp at hz1); have l0 : w.heap.size < w1.heap.size := (by omega); have l1 : w.heap.size + 1 < w1.heap.size := (by omega); have l2 : w.heap.size + 1 + 1 < w1.heap.size := (by omega))
  all_goals exact bodyPost_ret (by first | (simp [results, Try.results15, go_sem]; done) | (simp [results, Try.results15, go_sem, hc1, hz1, l0, l1, l2]; done) | (simp [results, Try.results15, go_sem]; rfl) | (simp [results, Try.results15, go_sem, hc1, hz1, l0, l1, l2]; rfl)) rfl ⟨by first | rfl | (simp_all [encX]; done) | (simp_all [encX, Int.add_comm]; done), (by repeat (first | exact Below.refl _ _ | refine Below.setCell ?_ (by first | (simp; done) | (simp; omega) | omega) _ | refine Below.alloc ?_ (by first | (simp; done) | (simp; omega) | omega) _ | (refine bstep (by assumption) ?_ (by first | (simp; done) | (simp; omega) | omega))))⟩
set_option maxHeartbeats 1000000 in
theorem StS_top  (w : World) : Calls Try.prog 17 #[.agg #[.int .i64 0, .int .i64 0, .int .i64 0]] w fun e w' => e = .returned (.int .i64 3) ∧ Below w.heap.size w w' := by
  go_enter Try.func17, Try.ntmps17
  go_wp2_with fail
  go_ret
  exact ⟨rfl, (by repeat (first | exact Below.refl _ _ | refine Below.setCell ?_ (by first | (simp; done) | (simp; omega) | omega) _ | refine Below.alloc ?_ (by first | (simp; done) | (simp; omega) | omega) _ | (refine bstep (by assumption) ?_ (by first | (simp; done) | (simp; omega) | omega))))⟩
set_option maxHeartbeats 1000000 in
theorem StS_con (c1 : Int) (w : World) : Calls Try.prog 17 #[.agg #[.int .i64 1, .int .i64 0, .int .i64 c1]] w fun e w' => e = .returned (.int .i64 2) ∧ Below w.heap.size w w' := by
  go_enter Try.func17, Try.ntmps17
  go_wp2_with fail
  go_ret
  exact ⟨rfl, (by repeat (first | exact Below.refl _ _ | refine Below.setCell ?_ (by first | (simp; done) | (simp; omega) | omega) _ | refine Below.alloc ?_ (by first | (simp; done) | (simp; omega) | omega) _ | (refine bstep (by assumption) ?_ (by first | (simp; done) | (simp; omega) | omega))))⟩
set_option maxHeartbeats 1000000 in
theorem StS_shf (b1 : Int) (w : World) : Calls Try.prog 17 #[.agg #[.int .i64 2, .int .i64 b1, .int .i64 0]] w fun e w' => e = .returned (.int .i64 2) ∧ Below w.heap.size w w' := by
  go_enter Try.func17, Try.ntmps17
  go_wp2_with fail
  go_ret
  exact ⟨rfl, (by repeat (first | exact Below.refl _ _ | refine Below.setCell ?_ (by first | (simp; done) | (simp; omega) | omega) _ | refine Below.alloc ?_ (by first | (simp; done) | (simp; omega) | omega) _ | (refine bstep (by assumption) ?_ (by first | (simp; done) | (simp; omega) | omega))))⟩
set_option maxHeartbeats 1000000 in
theorem StS_mt (b1 c1 : Int) (w : World) : Calls Try.prog 17 #[.agg #[.int .i64 3, .int .i64 b1, .int .i64 c1]] w fun e w' => e = .returned (.int .i64 1) ∧ Below w.heap.size w w' := by
  go_enter Try.func17, Try.ntmps17
  go_wp2_with fail
  go_ret
  exact ⟨rfl, (by repeat (first | exact Below.refl _ _ | refine Below.setCell ?_ (by first | (simp; done) | (simp; omega) | omega) _ | refine Below.alloc ?_ (by first | (simp; done) | (simp; omega) | omega) _ | (refine bstep (by assumption) ?_ (by first | (simp; done) | (simp; omega) | omega))))⟩
set_option maxHeartbeats 1000000 in
theorem StS_bot  (w : World) : Calls Try.prog 17 #[.agg #[.int .i64 4, .int .i64 0, .int .i64 0]] w fun e w' => e = .returned (.int .i64 0) ∧ Below w.heap.size w w' := by
  go_enter Try.func17, Try.ntmps17
  go_wp2_with fail
  go_ret
  exact ⟨rfl, (by repeat (first | exact Below.refl _ _ | refine Below.setCell ?_ (by first | (simp; done) | (simp; omega) | omega) _ | refine Below.alloc ?_ (by first | (simp; done) | (simp; omega) | omega) _ | (refine bstep (by assumption) ?_ (by first | (simp; done) | (simp; omega) | omega))))⟩
theorem CoSX (x y : Xf) (w : World) : Calls Try.prog 13 #[encX x, encX y] w fun e w' => e = .returned (encX (comp x y)) ∧ Below w.heap.size w w' := by
  cases x <;> cases y
  · exact CoS_top_top w
  · exact CoS_top_con _ w
  · exact CoS_top_shf _ w
  · exact CoS_top_mt _ _ w
  · exact CoS_top_bot w
  · exact CoS_con_top _ w
  · exact CoS_con_con _ _ w
  · exact CoS_con_shf _ _ w
  · rename_i c1 b2 c2
    by_cases h : wrap64 (c1 + b2) = c2
    · exact CoSE_con_mt _ _ _ h w
    · exact CoSN_con_mt _ _ _ h w
  · exact CoS_con_bot _ w
  · exact CoS_shf_top _ w
  · exact CoS_shf_con _ _ w
  · exact CoS_shf_shf _ _ w
  · exact CoS_shf_mt _ _ _ w
  · exact CoS_shf_bot _ w
  · exact CoS_mt_top _ _ w
  · exact CoS_mt_con _ _ _ w
  · exact CoS_mt_shf _ _ _ w
  · rename_i b1 c1 b2 c2
    by_cases h : wrap64 (c1 + b2) = c2
    · exact CoSE_mt_mt _ _ _ _ h w
    · exact CoSN_mt_mt _ _ _ _ h w
  · exact CoS_mt_bot _ _ w
  · exact CoS_bot_top w
  · exact CoS_bot_con _ w
  · exact CoS_bot_shf _ w
  · exact CoS_bot_mt _ _ w
  · exact CoS_bot_bot w
theorem MeSX (x y : Xf) (w : World) : Calls Try.prog 15 #[encX x, encX y] w fun e w' => e = .returned (encX (meet x y)) ∧ Below w.heap.size w w' := by
  cases x <;> cases y
  · exact MeS_top_top w
  · exact MeS_top_con _ w
  · exact MeS_top_shf _ w
  · exact MeS_top_mt _ _ w
  · exact MeS_top_bot w
  · exact MeS_con_top _ w
  · exact MeS_con_con _ _ w
  · exact MeS_con_shf _ _ w
  · exact MeS_con_mt _ _ _ w
  · exact MeS_con_bot _ w
  · exact MeS_shf_top _ w
  · exact MeS_shf_con _ _ w
  · exact MeS_shf_shf _ _ w
  · exact MeS_shf_mt _ _ _ w
  · exact MeS_shf_bot _ w
  · exact MeS_mt_top _ _ w
  · exact MeS_mt_con _ _ _ w
  · exact MeS_mt_shf _ _ _ w
  · exact MeS_mt_mt _ _ _ _ w
  · exact MeS_mt_bot _ _ w
  · exact MeS_bot_top w
  · exact MeS_bot_con _ w
  · exact MeS_bot_shf _ w
  · exact MeS_bot_mt _ _ w
  · exact MeS_bot_bot w
theorem StSX (x : Xf) (w : World) : Calls Try.prog 17 #[encX x] w fun e w' => e = .returned (.int .i64 (stR x.k)) ∧ Below w.heap.size w w' := by
  cases x
  · exact StS_top w
  · exact StS_con _ w
  · exact StS_shf _ w
  · exact StS_mt _ _ w
  · exact StS_bot w
end Go.Proofs.Ytnicekdbpjalgaa
