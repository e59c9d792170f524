/- (vpath.place).step in the print's form, for every place of fewer than 1000000 pending calls and every edge that does not return from an empty stack. -/
import Derived.Test.YtflpelbhalndcaaQVg2
import Derived.Deep.RegionLawGrows
import Derived.Deep.RegionHeld3
import Derived.Deep.MidRow
import Derived.Shelf.RegionOpenPlain
namespace Go.Proofs.Ytflpelbhalndcaa.QV
open Go.RowKit Go.Proofs.YtflpelbhalndcaaW.PrintWords Go.Proofs.YtflpelbhalndcaaW.PrintLast Go.Proofs.YtflpelbhalndcaaW.PrintMore
open Go.Proofs.Ytflpelbhalndcaa.Cmp Go.Proofs.Ytflpelbhalndcaa.Bridge
set_option linter.unusedVariables false
set_option linter.unusedSimpArgs false

theorem returns63 (a0 a1 a2 a3 : Int) (w : World) : Calls Try.prog 63 #[.agg #[.int .i64 a0, .int .i64 a1, .int .i64 a2, .int .i64 a3]] w fun e w' => e = .returned (.bool (decide (a2 = 3 ∨ a2 = 4))) ∧ Below w.heap.size w w' := by
  go_enter Try.func63, Try.ntmps63
  go_wp2
  all_goals go_ret
  all_goals refine ⟨?_, (Below.refl _ _).alloc (Nat.le_refl _) _⟩
  all_goals (first | (simp_all; done) | (by_cases h4 : a2 = 4 <;> simp_all))

theorem kc_alloc {w : World} {a : Addr} {v : Value} {x : Obj} (h : w.cell? a = some v) : (w.alloc x).cell? a = some v := (World.cell?_alloc_lt _ _ _ (World.block_lt_of_cell? w a h)).trans h
theorem kf_alloc {w : World} {b o : Nat} {x : Obj} (hs : b < w.heap.size) (h : w.frozen? ⟨b, o, none⟩ = false) : (w.alloc x).frozen? ⟨b, o, none⟩ = false := by
  rw [← h]; exact World.frozen?_of_block (w := w) (a := ⟨b, o, none⟩) (Below.heap_alloc w x b hs)
def cellv (w : World) (b o : Nat) : Value := (w.cell? ⟨b, o, none⟩).getD undef
theorem cellv_of {w : World} (b o : Nat) {v : Value} (h : w.cell? ⟨b, o, none⟩ = some v) : w.cell? ⟨b, o, none⟩ = some (cellv w b o) := by rw [cellv, h]; rfl
theorem cellv_below {w w1 : World} {b o : Nat} (hb : Below w.heap.size w w1) (hl : b < w.heap.size) (h : w.cell? ⟨b, o, none⟩ = some (cellv w b o)) : w1.cell? ⟨b, o, none⟩ = some (cellv w1 b o) :=
  cellv_of b o ((hb.cell (p := ⟨b, o, none⟩) hl).trans h)
theorem cellv_set {w : World} {b o : Nat} {a : Addr} {v : Value} (h : w.cell? ⟨b, o, none⟩ = some (cellv w b o)) : (w.setCell a v).cell? ⟨b, o, none⟩ = some (cellv (w.setCell a v) b o) := by
  by_cases e : (⟨b, o, none⟩ : Addr) = a
  · subst e
    exact cellv_of b o (World.cell?_setCell_same _ _ _ h)
  · exact cellv_of b o ((World.cell?_setCell_other _ _ _ _ (fun h => e h.symm)).trans h)
theorem cellv_alloc {w : World} {b o : Nat} {x : Obj} (h : w.cell? ⟨b, o, none⟩ = some (cellv w b o)) : (w.alloc x).cell? ⟨b, o, none⟩ = some (cellv (w.alloc x) b o) := cellv_of b o (kc_alloc h)
theorem kc_set {w : World} {a p : Addr} {v u : Value} (hne : p ≠ a) (h : w.cell? a = some v) : (w.setCell p u).cell? a = some v := (World.cell?_setCell_other _ _ _ _ hne).trans h
theorem kf_set {w : World} {a p : Addr} {u : Value} (h : w.frozen? a = false) : (w.setCell p u).frozen? a = false := by rw [World.frozen?_setCell]; exact h
theorem setCell_val {w : World} {p : Addr} {v u : Value} (h : (w.setCell p v).cell? p = some u) : u = v := by
  cases hc : w.cell? p with
  | some c => rw [World.cell?_setCell_same _ _ _ hc] at h; simpa using h.symm
  | none =>
    exfalso
    unfold World.cell? World.setCell at h
    unfold World.cell? at hc
    simp only [Array.getElem?_modify, if_true] at h
    revert h hc
    cases w.heap[p.block]? with
    | none => simp
    | some o =>
      cases o with
      | cells c t f =>
        by_cases hs : p.spot.isSome = true
        · simp [hs]
        · by_cases ho : p.off < c.size <;> simp [hs, ho]
      | _ => simp
theorem two_set {w : World} {b : Nat} {x y u v : Value} (h0 : ((w.setCell ⟨b, 0, none⟩ x).setCell ⟨b, 1, none⟩ y).cell? ⟨b, 0, none⟩ = some u) (h1 : ((w.setCell ⟨b, 0, none⟩ x).setCell ⟨b, 1, none⟩ y).cell? ⟨b, 1, none⟩ = some v) :
    ((w.setCell ⟨b, 0, none⟩ x).setCell ⟨b, 1, none⟩ y).cell? ⟨b, 0, none⟩ = some x ∧ ((w.setCell ⟨b, 0, none⟩ x).setCell ⟨b, 1, none⟩ y).cell? ⟨b, 1, none⟩ = some y := by
  refine ⟨?_, setCell_val h1 ▸ h1⟩
  rw [World.cell?_setCell_other _ _ _ _ (by simp)] at h0 ⊢
  exact setCell_val h0 ▸ h0
/-! ### what they compute -/
theorem bstep {B : Nat} {w W w1 : World} (hb : Below W.heap.size W w1) (h : Below B w W) (hB : B ≤ W.heap.size) : Below B w w1 := h.trans (hb.mono hB)
theorem below3 {w : World} (x y z : Obj) : Below w.heap.size w (((w.alloc x).alloc y).alloc z) := (((Below.refl _ _).alloc (Nat.le_refl _) _).alloc (by simp) _).alloc (by simp; omega) _
/-- The step at an edge that is no call and no return. -/
theorem step_stay (x0 a0 a1 a2 a3 : Int) (A : Option Addr) (n c : Nat) (w : World) (h2 : a2 ≠ 2) (h3 : ¬ (a2 = 3 ∨ a2 = 4)) (hn : n ≤ c) (hc : c ≤ 9223372036854775807) :
    Calls Try.prog 101 #[.agg #[.int .i64 x0, .slice A n c], .agg #[.int .i64 a0, .int .i64 a1, .int .i64 a2, .int .i64 a3]] w fun e w' => e = .returned (.agg #[.int .i64 a1, .slice A n c]) ∧ Below w.heap.size w w' := by
  have hd : decide (a2 = 3 ∨ a2 = 4) = false := decide_eq_false h3
  have b2 : (a2 == 2) = false := beq_eq_false_iff_ne.mpr h2
  have hcon := fun W => returns63 a0 a1 a2 a3 W
  rw [hd] at hcon
  clear hd
  go_enter Try.func101, Try.ntmps101
  go_wp2_with (go_at_call 63; refine (hcon _).mono ?_; rintro e w1 ⟨rfl, hb⟩; have c0 := (hb.cell (p := ⟨w.heap.size, 0, none⟩) (by first | (simp; done) | (simp; omega))).trans (show _ = some (.int .i64 x0) by go_simp); have c1 := (hb.cell (p := ⟨w.heap.size, 1, none⟩) (by first | (simp; done) | (simp; omega))).trans (show _ = some (.slice A n c) by go_simp); have c2 := (hb.cell (p := ⟨w.heap.size + 1, 0, none⟩) (by first | (simp; done) | (simp; omega))).trans (show _ = some (.int .i64 a0) by go_simp); have c3 := (hb.cell (p := ⟨w.heap.size + 1, 1, none⟩) (by first | (simp; done) | (simp; omega))).trans (show _ = some (.int .i64 a1) by go_simp); have c4 := (hb.cell (p := ⟨w.heap.size + 1, 2, none⟩) (by first | (simp; done) | (simp; omega))).trans (show _ = some (.int .i64 a2) by go_simp); have c5 := (hb.cell (p := ⟨w.heap.size + 1, 3, none⟩) (by first | (simp; done) | (simp; omega))).trans (show _ = some (.int .i64 a3) by go_simp); have c6 := (hb.cell (p := ⟨w.heap.size + 1 + 1, 0, none⟩) (by first | (simp; done) | (simp; omega))).trans (show _ = some (.int .i64 0) by go_simp); have c7 := (hb.cell (p := ⟨w.heap.size + 1 + 1, 1, none⟩) (by first | (simp; done) | (simp; omega))).trans (show _ = some (.slice none 0 0) by go_simp); have f0 := (hb.frozen (p := ⟨w.heap.size + 1 + 1, 0, none⟩) (by first | (simp; done) | (simp; omega))).trans (show _ = false by go_simp); have f1 := (hb.frozen (p := ⟨w.heap.size + 1 + 1, 1, none⟩) (by first | (simp; done) | (simp; omega))).trans (show _ = false by go_simp); have hz := hb.size; (try simp at hz))
  have HB := Aside0.mk (bstep hb (below3 _ _ _) (by simp; omega))
  exact bodyPost_ret (by simp [results, Try.results101, go_sem, c6, c7, f0, f1]) rfl ⟨rfl, (HB.out.setCell (show w.heap.size ≤ w.heap.size + 1 + 1 by omega) _).setCell (show w.heap.size ≤ w.heap.size + 1 + 1 by omega) _⟩

/-- The step at an edge that returns. -/
theorem step_back (x0 a0 a1 a2 a3 : Int) (A : Option Addr) (n c : Nat) (w : World) (h3 : a2 = 3 ∨ a2 = 4) (h0 : 0 < n) (hn : n ≤ c) (hc : c ≤ 9223372036854775807) :
    Calls Try.prog 101 #[.agg #[.int .i64 x0, .slice A n c], .agg #[.int .i64 a0, .int .i64 a1, .int .i64 a2, .int .i64 a3]] w fun e w' => e = .returned (.agg #[.int .i64 a1, .slice A (n - 1) c]) ∧ Below w.heap.size w w' := by
  have hd : decide (a2 = 3 ∨ a2 = 4) = true := decide_eq_true h3
  have b2 : (a2 == 2) = false := beq_eq_false_iff_ne.mpr (by omega)
  have hcon := fun W => returns63 a0 a1 a2 a3 W
  rw [hd] at hcon
  clear hd
  have mixed : Try.prog.follows .mixedOrders = true := by kernel_rfl
  have u26 := run_underlying Try.underlying26
  have hn1 : (0 : Int) ≤ (n : Int) - 1 := by omega
  have hn2 : (n : Int) - 1 ≤ (c : Int) := by omega
  have hn3 : ((n : Int) - 1).toNat = n - 1 := by omega
  have hw1 : IntKind.i64.wrap ((n : Int) - 1) = (n : Int) - 1 := by rw [IntKind.wrap_i64]; omega
  go_enter Try.func101, Try.ntmps101
  go_wp2_with (go_at_call 63; refine (hcon _).mono ?_; rintro e w1 ⟨rfl, hb⟩; have c0 := (hb.cell (p := ⟨w.heap.size, 0, none⟩) (by first | (simp; done) | (simp; omega))).trans (show _ = some (.int .i64 x0) by go_simp); have c1 := (hb.cell (p := ⟨w.heap.size, 1, none⟩) (by first | (simp; done) | (simp; omega))).trans (show _ = some (.slice A n c) by go_simp); have c2 := (hb.cell (p := ⟨w.heap.size + 1, 0, none⟩) (by first | (simp; done) | (simp; omega))).trans (show _ = some (.int .i64 a0) by go_simp); have c3 := (hb.cell (p := ⟨w.heap.size + 1, 1, none⟩) (by first | (simp; done) | (simp; omega))).trans (show _ = some (.int .i64 a1) by go_simp); have c4 := (hb.cell (p := ⟨w.heap.size + 1, 2, none⟩) (by first | (simp; done) | (simp; omega))).trans (show _ = some (.int .i64 a2) by go_simp); have c5 := (hb.cell (p := ⟨w.heap.size + 1, 3, none⟩) (by first | (simp; done) | (simp; omega))).trans (show _ = some (.int .i64 a3) by go_simp); have c6 := (hb.cell (p := ⟨w.heap.size + 1 + 1, 0, none⟩) (by first | (simp; done) | (simp; omega))).trans (show _ = some (.int .i64 0) by go_simp); have c7 := (hb.cell (p := ⟨w.heap.size + 1 + 1, 1, none⟩) (by first | (simp; done) | (simp; omega))).trans (show _ = some (.slice none 0 0) by go_simp); have f0 := (hb.frozen (p := ⟨w.heap.size + 1 + 1, 0, none⟩) (by first | (simp; done) | (simp; omega))).trans (show _ = false by go_simp); have f1 := (hb.frozen (p := ⟨w.heap.size + 1 + 1, 1, none⟩) (by first | (simp; done) | (simp; omega))).trans (show _ = false by go_simp); have hz := hb.size; (try simp at hz))
  have HB := Aside0.mk (bstep hb (below3 _ _ _) (by simp; omega))
  clear hb
  go_big_region_o
  go_wp2
  exact bodyPost_ret (by simp [results, Try.results101, go_sem, c6, c7, f0, f1]) rfl ⟨rfl, ((HB.out.setCell (show w.heap.size ≤ w.heap.size + 1 + 1 by omega) _).setCell (show w.heap.size ≤ w.heap.size + 1 + 1 by omega) _).drew⟩

theorem add_block (b : Addr) (j : Nat) : (b.add j).block = b.block := by unfold Addr.add; split <;> rfl
theorem below_of_grown {w w' : World} (h : w.grownBy w' none) : Below w.heap.size w w' := ⟨h.os, h.tape, h.output, h.size, fun i hi => h.block i hi (by simp)⟩
set_option maxRecDepth 100000 in
set_option maxHeartbeats 4000000 in
/-- The step at a call edge. -/
theorem step_call (x0 a0 a1 a3 : Int) (A : Option Addr) (n c : Nat) (olds : List Value) (w : World) (hn : n ≤ c) (hc : c ≤ 9223372036854775807) (hnL : n < 1000000) (hlo : olds.length = n * 1)
    (h0 : ∀ b, A = some b → ∀ j u, olds[j]? = some u → w.cell? (b.add j) = some u) (hlt : ∀ b, A = some b → b.block < w.heap.size) (hnone : A = none → n = 0 ∧ n = 0) :
    Calls Try.prog 101 #[.agg #[.int .i64 x0, .slice A n c], .agg #[.int .i64 a0, .int .i64 a1, .int .i64 2, .int .i64 a3]] w fun e w' =>
      ∃ A' c', e = .returned (.agg #[.int .i64 a1, .slice A' (n + 1) c']) ∧ w'.ownsRow w.heap.size 3 1 (.slice A' (n + 1) c') (n + 1) (olds ++ [.int .i64 a0]) ∧ Below w.heap.size w w' := by
  have mixed : Try.prog.follows .mixedOrders = true := by kernel_rfl
  have u26 := run_underlying Try.underlying26
  obtain ⟨i0, hi, hz0, hz1, hz2⟩ := info_parts info3
  go_enter Try.func101, Try.ntmps101
  go_wp2_with fail
  go_region_held3 (fun w' => w'.cell? ⟨w.heap.size, 0, none⟩ = some (.int .i64 x0) ∧ w'.cell? ⟨w.heap.size, 1, none⟩ = some (.slice A n c) ∧ w'.cell? ⟨w.heap.size + 1, 0, none⟩ = some (.int .i64 a0) ∧ w'.cell? ⟨w.heap.size + 1, 1, none⟩ = some (.int .i64 a1) ∧ w'.cell? ⟨w.heap.size + 1, 2, none⟩ = some (.int .i64 2) ∧ w'.cell? ⟨w.heap.size + 1, 3, none⟩ = some (.int .i64 a3) ∧ w'.cell? ⟨w.heap.size + 1 + 1, 0, none⟩ = some (cellv w' (w.heap.size + 1 + 1) 0) ∧ w'.cell? ⟨w.heap.size + 1 + 1, 1, none⟩ = some (cellv w' (w.heap.size + 1 + 1) 1) ∧ w'.frozen? ⟨w.heap.size + 1 + 1, 0, none⟩ = false ∧ w'.frozen? ⟨w.heap.size + 1 + 1, 1, none⟩ = false ∧ Below w.heap.size w w' ∧ w.heap.size + 3 ≤ w'.heap.size)
    (first
      | (refine ⟨?_, ?_, ?_, ?_, ?_, ?_, ?_, ?_, ?_, ?_, ?_, ?_⟩; go_simp; go_simp; go_simp; go_simp; go_simp; go_simp; (refine cellv_of _ _ (v := .int .i64 0) ?_; go_simp); (refine cellv_of _ _ (v := .slice none 0 0) ?_; go_simp); go_simp; go_simp; (focus ((repeat' (with_reducible (first | assumption | exact Below.refl _ _ | apply Below.drew | apply Below.alloc | apply Below.setCell))); all_goals (first | omega | (simp; done) | (simp; omega)))); (first | omega | (focus (simp; done)) | (focus (simp; omega))))
      | (go_split_ands; refine ⟨?_, ?_, ?_, ?_, ?_, ?_, ?_, ?_, ?_, ?_, ?_, ?_⟩; (rw [hb.cell (by first | omega | (simp; done) | (simp; omega))]; assumption); (rw [hb.cell (by first | omega | (simp; done) | (simp; omega))]; assumption); (rw [hb.cell (by first | omega | (simp; done) | (simp; omega))]; assumption); (rw [hb.cell (by first | omega | (simp; done) | (simp; omega))]; assumption); (rw [hb.cell (by first | omega | (simp; done) | (simp; omega))]; assumption); (rw [hb.cell (by first | omega | (simp; done) | (simp; omega))]; assumption); (refine cellv_below hb (by first | omega | (simp; done) | (simp; omega)) ?_; assumption); (refine cellv_below hb (by first | omega | (simp; done) | (simp; omega)) ?_; assumption); (rw [hb.frozen (by first | omega | (simp; done) | (simp; omega))]; assumption); (rw [hb.frozen (by first | omega | (simp; done) | (simp; omega))]; assumption); exact bstep hb (by assumption) (by first | omega | (simp; done) | (simp; omega)); (have hq := hb.size; omega))
      | (go_split_ands; refine ⟨?_, ?_, ?_, ?_, ?_, ?_, ?_, ?_, ?_, ?_, ?_, ?_⟩; (refine kc_alloc ?_; assumption); (refine kc_alloc ?_; assumption); (refine kc_alloc ?_; assumption); (refine kc_alloc ?_; assumption); (refine kc_alloc ?_; assumption); (refine kc_alloc ?_; assumption); (refine cellv_alloc ?_; assumption); (refine cellv_alloc ?_; assumption); (refine kf_alloc (by first | omega | (simp; done) | (simp; omega)) ?_; assumption); (refine kf_alloc (by first | omega | (simp; done) | (simp; omega)) ?_; assumption); exact Below.alloc (by assumption) (by first | omega | (simp; done) | (simp; omega)) _; (first | omega | (rw [World.size_alloc]; omega)))
      | (go_split_ands; refine ⟨?_, ?_, ?_, ?_, ?_, ?_, ?_, ?_, ?_, ?_, ?_, ?_⟩; (focus (repeat (first | assumption | refine kc_set (by first | omega | (simp; done) | (simp; omega)) ?_))); (focus (repeat (first | assumption | refine kc_set (by first | omega | (simp; done) | (simp; omega)) ?_))); (focus (repeat (first | assumption | refine kc_set (by first | omega | (simp; done) | (simp; omega)) ?_))); (focus (repeat (first | assumption | refine kc_set (by first | omega | (simp; done) | (simp; omega)) ?_))); (focus (repeat (first | assumption | refine kc_set (by first | omega | (simp; done) | (simp; omega)) ?_))); (focus (repeat (first | assumption | refine kc_set (by first | omega | (simp; done) | (simp; omega)) ?_))); (focus (repeat (first | assumption | refine cellv_set ?_))); (focus (repeat (first | assumption | refine cellv_set ?_))); (focus (repeat (first | assumption | refine kf_set ?_))); (focus (repeat (first | assumption | refine kf_set ?_))); (focus (repeat (first | assumption | refine Below.setCell ?_ (by first | omega | (simp; done) | (simp; omega)) _))); (first | omega | (focus (simp only [World.size_setCell]; omega)) | (focus (simp; omega)) | (focus (simp only [World.size_setCell]; done)))))
    (first
      | (refine step_append_grows rfl (.tmp 19) (.tmp 22) 26 rfl 3 i0 (.int .i64 0) 1 8 Try.underlying26 hi hz0 hz1 hz2 rfl (by decide) A n n olds rfl hnone hlo ?ho ⟨_, 0, none⟩ 1 1 [.int .i64 a0] rfl rfl ?hc1 ?h1c (Nat.lt_succ_self n) ?b1 ?b2 ?_; (case ho => intro b hb j u hj; (go_split_ands; (exact ((by assumption : Below w.heap.size w _).cell (p := b.add j) (by rw [add_block]; exact hlt b hb)).trans (h0 b hb j u hj)))); (case hc1 => intro j u hj; (match j, hj with | 0, hj => (obtain rfl : _ = u := by simpa using hj); go_simp | j + 1, hj => simp at hj)); (case h1c => intro u hu; simp at hu; subst hu; rfl); (case b1 => unfold maxLen; omega); (case b2 => omega); intro v' w' hown hgr0; obtain ⟨A', c', rfl⟩ := own_slice hown; have hb := below_of_grown hgr0; clear hgr0))
  all_goals go_split_ands
  all_goals have Q := two_set (w := w') (b := w.heap.size + 1 + 1) (x := .int .i64 a1) (y := .slice A' (n + 1) c') (by assumption) (by assumption)
  all_goals have HQ := Aside0.mk hown
  all_goals clear hown
  all_goals go_wp2
  all_goals refine bodyPost_ret (by simp [results, Try.results101, go_sem, Q.1, Q.2]) rfl ⟨A', c', rfl, ?_, by assumption⟩
  all_goals
    refine own_weaken (own_move HQ.out (fun k hk => ?_)) (by simp; try omega)
    have hbk := own_base HQ.out k hk
    have hbk2 : w.heap.size + 1 + 1 < k := by simp at hbk; omega
    rw [Below.heap_setCell _ _ _ k (by show k ≠ w.heap.size + 1 + 1; omega), Below.heap_setCell _ _ _ k (by show k ≠ w.heap.size + 1 + 1; omega)]
theorem ints_of_R {w : World} {base : Nat} {ok : Nat → Prop} {A : Option Addr} {n c : Nat} {l : List Int} (h : Kd.R (Kd.int .i64) 3 w base ok (.slice A n c) l) :
    n = l.length ∧ n ≤ c ∧ c ≤ 9223372036854775807 ∧ (∀ b, A = some b → b.block < w.heap.size) ∧ (∀ b, A = some b → ∀ (j : Nat) u, (l.map (Value.int .i64))[j]? = some u → w.cell? (b.add j) = some u) ∧ (A = none → n = 0 ∧ n = 0) := by
  obtain ⟨h0, inner, ⟨hl, ho⟩, hr⟩ := h
  rcases ho with ⟨e1, e2⟩ | ⟨g, cap, cur, e2, hb, hh, hn, hc, hs, ht⟩
  · injection e1 with e3 e4 e5
    subst e3 e4 e5
    exact ⟨e2.symm, Nat.le_refl _, Nat.zero_le _, fun b hb => (by cases hb), fun b hb => (by cases hb), fun _ => ⟨rfl, rfl⟩⟩
  · injection e2 with e3 e4 e5
    subst e3 e4 e5
    have hg : g < w.heap.size := (Array.getElem?_eq_some_iff.1 hh).1
    refine ⟨rfl, hn, hc, fun b hb => (by cases hb; exact hg), fun b hb j u hj => ?_, fun h => (by cases h)⟩
    cases hb
    have hjl : j < l.length := by simpa using (List.getElem?_eq_some_iff.1 hj).1
    have hM : (inner.drop (j * 1)).take 1 = [Value.int .i64 l[j]] := hr.2 j _ (List.getElem?_eq_getElem hjl)
    have hu : u = Value.int .i64 l[j] := by
      have := (List.getElem?_eq_some_iff.1 hj).2
      rw [← this]; simp
    have hin : inner[j]? = some u := by
      have h1 : ((inner.drop (j * 1)).take 1)[0]? = some u := by rw [hM, hu]; rfl
      rw [List.getElem?_take, if_pos (by decide), List.getElem?_drop] at h1
      simpa using h1
    rw [addN]
    unfold World.cell?
    simp only [hh, Option.isSome_none, Bool.false_eq_true, if_false, Nat.zero_add]
    rw [← hin, ← ht, List.getElem?_take, if_pos (show j < l.length * (Kd.int .i64).sz from (by show j < l.length * 1; omega)), Array.getElem?_toList]

theorem R_of_ints {w : World} {base : Nat} {ok : Nat → Prop} {v : Value} {l : List Int} (ho : w.ownsRow base 3 1 v l.length (l.map (Value.int .i64))) (hk : ∀ k, v.ownBlock = some k → ok k) : Kd.R (Kd.int .i64) 3 w base ok v l := by
  refine ⟨hk, _, ho, (by rw [List.length_map]; exact (Nat.mul_one _).symm), fun j p hj => ?_⟩
  show (((l.map (Value.int .i64)).drop (j * 1)).take 1) = [Value.int .i64 p]
  have hjl : j < l.length := (List.getElem?_eq_some_iff.1 hj).1
  have hp : l[j] = p := (List.getElem?_eq_some_iff.1 hj).2
  rw [Nat.mul_one, ← List.map_drop, List.drop_eq_getElem_cons hjl, hp]
  simp

/-- The place behind an edge. -/
def vpath_place_step.f (a0_0 : Int) (l0_1 : List Int) (a1_0 a1_1 a1_2 a1_3 : Int) : Option (Int × List Int) :=
  if a1_2 = 2 then (if l0_1.length < 1000000 then some (a1_1, l0_1 ++ [a1_0]) else none)
  else if a1_2 = 3 ∨ a1_2 = 4 then (if 0 < l0_1.length then some (a1_1, l0_1.take (l0_1.length - 1)) else none) else some (a1_1, l0_1)

theorem vpath_place_step.calls (a0_0 : Int) (P0_ : Nat → Prop) (u9000_ : Value) (l0_1 : List Int) (a1_0 a1_1 a1_2 a1_3 : Int) (r1 : Int) (r2 : List Int) (w0 w : World) (hB : Below w0.heap.size w0 w) (ho0 : Kd.R (Kd.int .i64) 3 w w0.heap.size P0_ u9000_ l0_1)
    (h : vpath_place_step.f a0_0 l0_1 a1_0 a1_1 a1_2 a1_3 = some (r1, r2)) :
    Calls Try.prog 101 #[.agg #[.int .i64 a0_0, u9000_], .agg #[.int .i64 a1_0, .int .i64 a1_1, .int .i64 a1_2, .int .i64 a1_3]] w fun e w' =>
      ∃ v0_, e = .returned (.agg #[.int .i64 r1, v0_]) ∧ Kd.R (Kd.int .i64) 3 w' w0.heap.size (fun k_ => (P0_ k_ ∨ w.heap.size ≤ k_)) v0_ r2 ∧ Below w0.heap.size w0 w' ∧ Kept w w' (fun k_ => P0_ k_) := by
  obtain ⟨A, c, e⟩ := Kd.R_slice ho0
  subst e
  obtain ⟨-, hnc, hc, hlt, h0, hnone⟩ := ints_of_R ho0
  unfold vpath_place_step.f at h
  by_cases h2 : a1_2 = 2
  · rw [if_pos h2] at h
    subst h2
    by_cases hL : l0_1.length < 1000000
    · rw [if_pos hL] at h
      obtain ⟨rfl, rfl⟩ := Prod.mk.inj (Option.some.inj h)
      refine (step_call a0_0 a1_0 a1_1 a1_3 A l0_1.length c (l0_1.map (Value.int .i64)) w hnc hc hL (by simp) h0 hlt hnone).mono ?_
      rintro e w' ⟨A', c', rfl, hown, hb⟩
      refine ⟨_, rfl, R_of_ints (own_weaken (by simpa using hown) hB.size) (fun k hk => .inr (own_base hown k hk)), hB.trans (hb.mono hB.size), Kept.of_below hb _⟩
    · rw [if_neg hL] at h
      cases h
  · rw [if_neg h2] at h
    by_cases h3 : a1_2 = 3 ∨ a1_2 = 4
    · rw [if_pos h3] at h
      by_cases hL : 0 < l0_1.length
      · rw [if_pos hL] at h
        obtain ⟨rfl, rfl⟩ := Prod.mk.inj (Option.some.inj h)
        refine (step_back a0_0 a1_0 a1_1 a1_2 a1_3 A l0_1.length c w h3 hL hnc hc).mono ?_
        rintro e w' ⟨rfl, hb⟩
        exact ⟨_, rfl, Kd.R_mono (Kd.R_below (Kd.R_take ho0 (by omega)) hb) (fun k hk => .inl hk), hB.trans (hb.mono hB.size), Kept.of_below hb _⟩
      · rw [if_neg hL] at h
        cases h
    · rw [if_neg h3] at h
      obtain ⟨rfl, rfl⟩ := Prod.mk.inj (Option.some.inj h)
      refine (step_stay a0_0 a1_0 a1_1 a1_2 a1_3 A l0_1.length c w h2 h3 hnc hc).mono ?_
      rintro e w' ⟨rfl, hb⟩
      exact ⟨_, rfl, Kd.R_mono (Kd.R_below ho0 hb) (fun k hk => .inl hk), hB.trans (hb.mono hB.size), Kept.of_below hb _⟩
end Go.Proofs.Ytflpelbhalndcaa.QV
