/- cmp.Compare, cmp.Or and the two comparators of observe.Points and observe.Ints, for all numbers: what they return; they lay blocks of their own alone. No condition. -/
import Derived.Test.YtehfommdgoffmaaProg
import Derived.Below
import Derived.Deep.Draws
import Derived.WalkKit
import Derived.KernelRfl
import Derived.RowKit3
import Derived.Deep.LoopGhost
import Derived.Laws.Slices
import Derived.Sort.Grow
import Derived.Deep.RegionHeld3
import Derived.Deep.MidRow
import Derived.ProofKit
namespace Go.Proofs.Ytehfommdgoffmaa.Cmp
open Go.RowKit

def cmpI (x y : Int) : Int := if x < y then -1 else if x > y then 1 else 0
def orI : List Int → Int
  | [] => 0
  | x :: t => if x ≠ 0 then x else orI t

theorem nan (x : Int) (w : World) : Calls Try.prog 32 #[.int .i64 x] w fun e w' => e = .returned (.bool false) ∧ w' = w := by
  go_enter Try.func32, Try.ntmps32
  go_wp2
  go_ret
  exact ⟨by simp, rfl⟩

theorem compare (x y : Int) (w : World) : Calls Try.prog 21 #[.int .i64 x, .int .i64 y] w fun e w' => e = .returned (.int .i64 (cmpI x y)) ∧ w' = w := by
  go_enter Try.func21, Try.ntmps21
  go_wp2_with (go_at_call 32; refine (nan _ _).mono ?_; rintro e w' ⟨rfl, rfl⟩)
  all_goals go_ret
  all_goals refine ⟨?_, rfl⟩
  all_goals simp_all [cmpI]
  all_goals omega

theorem nan64 (x : Int) (w : World) : Calls Try.prog 36 #[.int .i64 x] w fun e w' => e = .returned (.bool false) ∧ w' = w := by
  go_enter Try.func36, Try.ntmps36
  go_wp2
  go_ret
  exact ⟨by simp, rfl⟩

theorem compare64 (x y : Int) (w : World) : Calls Try.prog 25 #[.int .i64 x, .int .i64 y] w fun e w' => e = .returned (.int .i64 (cmpI x y)) ∧ w' = w := by
  go_enter Try.func25, Try.ntmps25
  go_wp2_with (go_at_call 36; refine (nan64 _ _).mono ?_; rintro e w' ⟨rfl, rfl⟩)
  all_goals go_ret
  all_goals refine ⟨?_, rfl⟩
  all_goals simp_all [cmpI]
  all_goals omega

theorem or_drop (xs : List Int) (k : Nat) (h : k < xs.length) : orI (xs.drop k) = if xs.getD k 0 ≠ 0 then xs.getD k 0 else orI (xs.drop (k + 1)) := by
  rw [List.drop_eq_getElem_cons h, orI, List.getD_eq_getElem?_getD, List.getElem?_eq_getElem h]
  rfl

theorem orAny (b n c : Nat) (xs : List Int) (w : World) (hn : xs.length = n) (hs : n < 4611686018427387904) (hc : ∀ i : Nat, i < n → w.cell? ⟨b, i, none⟩ = some (.int .i64 (xs.getD i 0))) :
    Calls Try.prog 20 #[.slice (some ⟨b, 0, none⟩) n c] w fun e w' => e = .returned (.int .i64 (orI xs)) ∧ w' = w := by
  go_enter Try.func20, Try.ntmps20
  go_wp2
  go_loop [8] (fun i => ∃ k : Nat, k ≤ n ∧ i = .int .i64 k ∧ orI xs = orI (xs.drop k)) (fun i => n - (intOf i).toNat)
  case atStart => exact ⟨0, Nat.zero_le _, rfl, rfl⟩
  case round =>
    obtain ⟨k, hk, rfl, hor⟩ := hrel
    have hck : k < n → w.cell? ⟨b, k, none⟩ = some (.int .i64 (xs.getD k 0)) := fun h => hc k h
    go_wp2
    · go_ret
      have h1 := or_drop xs k (by omega)
      refine ⟨?_, rfl⟩
      rw [h1]
      simp_all
    · have h1 := or_drop xs k (by omega)
      go_round
      case rel => exact ⟨k + 1, by omega, by go_num, by rw [hor, h1]; simp_all⟩
      case measure => simp [intOf]; omega
    · go_ret
      refine ⟨?_, rfl⟩
      rw [List.drop_eq_nil_of_le (by omega)]
      rfl

theorem kc_alloc {w : World} {a : Addr} {v : Value} {x : Obj} (h : w.cell? a = some v) : (w.alloc x).cell? a = some v := (World.cell?_alloc_lt _ _ _ (World.block_lt_of_cell? w a h)).trans h
theorem kc_realloc {w : World} {a : Addr} {v : Value} {x y : Obj} (hl : a.block < w.heap.size) (h : (w.alloc x).cell? a = some v) : (w.alloc y).cell? a = some v := by
  rw [World.cell?_alloc_lt _ _ _ hl] at h ⊢; exact h
theorem kb_realloc {B : Nat} {a w : World} {x y : Obj} (hl : B ≤ w.heap.size) (h : Below B a (w.alloc x)) : Below B a (w.alloc y) :=
  ⟨h.os, h.tape, h.output, by have := h.size; simpa using this, fun k hk => by rw [Below.heap_alloc w y k (by omega), ← Below.heap_alloc w x k (by omega)]; exact h.block k hk⟩

theorem edges (a0 a1 a2 a3 b0 b1 b2 b3 : Int) (w : World) :
    Calls Try.prog 24 #[.agg #[.int .i64 a0, .int .i64 a1, .int .i64 a2, .int .i64 a3], .agg #[.int .i64 b0, .int .i64 b1, .int .i64 b2, .int .i64 b3]] w
      fun e w' => e = .returned (.int .i64 (orI [cmpI a0 b0, cmpI a1 b1, cmpI a2 b2, cmpI a3 b3])) ∧ Below w.heap.size w w' ∧ w.drawn ≤ w'.drawn := by
  go_enter Try.func24, Try.ntmps24
  go_wp2_with fail
  go_region_held3 (fun w' => w'.cell? ⟨w.heap.size, 0, none⟩ = some (.int .i64 a0) ∧ w'.cell? ⟨w.heap.size, 1, none⟩ = some (.int .i64 a1) ∧ w'.cell? ⟨w.heap.size, 2, none⟩ = some (.int .i64 a2) ∧ w'.cell? ⟨w.heap.size, 3, none⟩ = some (.int .i64 a3) ∧ w'.cell? ⟨w.heap.size + 1, 0, none⟩ = some (.int .i64 b0) ∧ w'.cell? ⟨w.heap.size + 1, 1, none⟩ = some (.int .i64 b1) ∧ w'.cell? ⟨w.heap.size + 1, 2, none⟩ = some (.int .i64 b2) ∧ w'.cell? ⟨w.heap.size + 1, 3, none⟩ = some (.int .i64 b3) ∧ Below w.heap.size w w' ∧ w.drawn ≤ w'.drawn ∧ w.heap.size + 2 ≤ w'.heap.size)
    (first
      | (refine ⟨?_, ?_, ?_, ?_, ?_, ?_, ?_, ?_, ?_, ?_, ?_⟩; go_simp; go_simp; go_simp; go_simp; go_simp; go_simp; go_simp; go_simp; (focus ((repeat' (with_reducible (first | assumption | exact Below.refl _ _ | apply Below.drew | apply Below.alloc))); all_goals (first | omega | (simp; done) | (simp; omega)))); (focus (first | assumption | exact Nat.le_refl _ | exact Nat.le_succ _ | exact Nat.le_succ_of_le (by assumption))); (first | omega | (focus (simp; done)) | (focus (simp; omega))))
      | (go_split_ands; refine ⟨?_, ?_, ?_, ?_, ?_, ?_, ?_, ?_, ?_, ?_, ?_⟩; (refine kc_alloc ?_; assumption); (refine kc_alloc ?_; assumption); (refine kc_alloc ?_; assumption); (refine kc_alloc ?_; assumption); (refine kc_alloc ?_; assumption); (refine kc_alloc ?_; assumption); (refine kc_alloc ?_; assumption); (refine kc_alloc ?_; assumption); exact Below.alloc (by assumption) (by first | omega | (simp; done) | (simp; omega)) _; (focus (first | assumption | exact Nat.le_refl _ | exact Nat.le_succ _ | exact Nat.le_succ_of_le (by assumption))); (first | omega | (rw [World.size_alloc]; omega)))
      | (go_split_ands; refine ⟨?_, ?_, ?_, ?_, ?_, ?_, ?_, ?_, ?_, ?_, ?_⟩; exact kc_realloc (by first | omega | (simp; done) | (simp; omega)) (by assumption); exact kc_realloc (by first | omega | (simp; done) | (simp; omega)) (by assumption); exact kc_realloc (by first | omega | (simp; done) | (simp; omega)) (by assumption); exact kc_realloc (by first | omega | (simp; done) | (simp; omega)) (by assumption); exact kc_realloc (by first | omega | (simp; done) | (simp; omega)) (by assumption); exact kc_realloc (by first | omega | (simp; done) | (simp; omega)) (by assumption); exact kc_realloc (by first | omega | (simp; done) | (simp; omega)) (by assumption); exact kc_realloc (by first | omega | (simp; done) | (simp; omega)) (by assumption); exact kb_realloc (by first | omega | (simp; done) | (simp; omega)) (by assumption); (focus (first | assumption | exact Nat.le_refl _ | exact Nat.le_succ _ | exact Nat.le_succ_of_le (by assumption))); (first | omega | (rw [World.size_alloc]; omega))))
    (first
      | (go_at_call 21; ((with_reducible refine (compare _ _ _).mono ?_)); rintro e w1 ⟨rfl, rfl⟩)
      | (go_at_call 25; ((with_reducible refine (compare64 _ _ _).mono ?_)); rintro e w1 ⟨rfl, rfl⟩)
      | (go_at_call 20; (with_reducible refine (orAny _ 4 4 [cmpI a0 b0, cmpI a1 b1, cmpI a2 b2, cmpI a3 b3] _ rfl (by omega) ?cc).mono ?_); (case cc => intro i hi; (match i, hi with | 0, _ => go_simp | 1, _ => go_simp | 2, _ => go_simp | 3, _ => go_simp | n + 4, h => omega)); rintro e w1 ⟨rfl, rfl⟩))
  all_goals go_split_ands
  all_goals go_wp2
  all_goals go_ret
  all_goals exact ⟨rfl, by assumption, by assumption⟩

theorem nodes (a0 a1 a2 b0 b1 b2 : Int) (w : World) :
    Calls Try.prog 19 #[.agg #[.int .i64 a0, .int .i64 a1, .int .i64 a2], .agg #[.int .i64 b0, .int .i64 b1, .int .i64 b2]] w
      fun e w' => e = .returned (.int .i64 (orI [cmpI a0 b0, cmpI a1 b1, cmpI a2 b2])) ∧ Below w.heap.size w w' ∧ w.drawn ≤ w'.drawn := by
  go_enter Try.func19, Try.ntmps19
  go_wp2_with fail
  go_region_held3 (fun w' => w'.cell? ⟨w.heap.size, 0, none⟩ = some (.int .i64 a0) ∧ w'.cell? ⟨w.heap.size, 1, none⟩ = some (.int .i64 a1) ∧ w'.cell? ⟨w.heap.size, 2, none⟩ = some (.int .i64 a2) ∧ w'.cell? ⟨w.heap.size + 1, 0, none⟩ = some (.int .i64 b0) ∧ w'.cell? ⟨w.heap.size + 1, 1, none⟩ = some (.int .i64 b1) ∧ w'.cell? ⟨w.heap.size + 1, 2, none⟩ = some (.int .i64 b2) ∧ Below w.heap.size w w' ∧ w.drawn ≤ w'.drawn ∧ w.heap.size + 2 ≤ w'.heap.size)
    (first
      | (refine ⟨?_, ?_, ?_, ?_, ?_, ?_, ?_, ?_, ?_⟩; go_simp; go_simp; go_simp; go_simp; go_simp; go_simp; (focus ((repeat' (with_reducible (first | assumption | exact Below.refl _ _ | apply Below.drew | apply Below.alloc))); all_goals (first | omega | (simp; done) | (simp; omega)))); (focus (first | assumption | exact Nat.le_refl _ | exact Nat.le_succ _ | exact Nat.le_succ_of_le (by assumption))); (first | omega | (focus (simp; done)) | (focus (simp; omega))))
      | (go_split_ands; refine ⟨?_, ?_, ?_, ?_, ?_, ?_, ?_, ?_, ?_⟩; (refine kc_alloc ?_; assumption); (refine kc_alloc ?_; assumption); (refine kc_alloc ?_; assumption); (refine kc_alloc ?_; assumption); (refine kc_alloc ?_; assumption); (refine kc_alloc ?_; assumption); exact Below.alloc (by assumption) (by first | omega | (simp; done) | (simp; omega)) _; (focus (first | assumption | exact Nat.le_refl _ | exact Nat.le_succ _ | exact Nat.le_succ_of_le (by assumption))); (first | omega | (rw [World.size_alloc]; omega)))
      | (go_split_ands; refine ⟨?_, ?_, ?_, ?_, ?_, ?_, ?_, ?_, ?_⟩; exact kc_realloc (by first | omega | (simp; done) | (simp; omega)) (by assumption); exact kc_realloc (by first | omega | (simp; done) | (simp; omega)) (by assumption); exact kc_realloc (by first | omega | (simp; done) | (simp; omega)) (by assumption); exact kc_realloc (by first | omega | (simp; done) | (simp; omega)) (by assumption); exact kc_realloc (by first | omega | (simp; done) | (simp; omega)) (by assumption); exact kc_realloc (by first | omega | (simp; done) | (simp; omega)) (by assumption); exact kc_realloc (by first | omega | (simp; done) | (simp; omega)) (by assumption); exact kc_realloc (by first | omega | (simp; done) | (simp; omega)) (by assumption); exact kb_realloc (by first | omega | (simp; done) | (simp; omega)) (by assumption); (focus (first | assumption | exact Nat.le_refl _ | exact Nat.le_succ _ | exact Nat.le_succ_of_le (by assumption))); (first | omega | (rw [World.size_alloc]; omega))))
    (first
      | (go_at_call 21; ((with_reducible refine (compare _ _ _).mono ?_)); rintro e w1 ⟨rfl, rfl⟩)
      | (go_at_call 20; (with_reducible refine (orAny _ 3 3 [cmpI a0 b0, cmpI a1 b1, cmpI a2 b2] _ rfl (by omega) ?cc).mono ?_); (case cc => intro i hi; (match i, hi with | 0, _ => go_simp | 1, _ => go_simp | 2, _ => go_simp | n + 3, h => omega)); rintro e w1 ⟨rfl, rfl⟩))
  all_goals go_split_ands
  all_goals go_wp2
  all_goals go_ret
  all_goals exact ⟨rfl, by assumption, by assumption⟩

open Go.Sort in
theorem grow_of_below {w w' : World} (h : Below w.heap.size w w') (hd : w.drawn ≤ w'.drawn) : ∃ q os', w' = grow (w.drewN q) os' := by
  refine ⟨w'.drawn - w.drawn, w'.heap.extract w.heap.size w'.heap.size, ?_⟩
  obtain ⟨h1, h2, h3, h4, h5⟩ := h
  have e : w'.heap = w.heap ++ w'.heap.extract w.heap.size w'.heap.size := by
    apply Array.ext
    · simp; omega
    · intro i hi1 hi2
      by_cases hi : i < w.heap.size
      · have := h5 i hi
        rw [Array.getElem?_eq_getElem hi1, Array.getElem?_eq_getElem hi] at this
        rw [Array.getElem_append_left hi]
        exact Option.some.inj this
      · rw [Array.getElem_append_right (by omega)]
        simp
        congr 1
        omega
  unfold grow World.drewN
  rw [← e]
  cases w
  cases w'
  simp only at *
  subst h1 h2 h3
  congr 1
  omega
end Go.Proofs.Ytehfommdgoffmaa.Cmp
