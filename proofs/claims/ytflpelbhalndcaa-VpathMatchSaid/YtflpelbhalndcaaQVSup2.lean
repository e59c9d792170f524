/- What super.Check's printed functions compute, in plain words: the order of edges, the error of an edge. -/
import Derived.Test.YtflpelbhalndcaaQVSup1
import Derived.Test.YtflpelbhalndcaaQVx7
namespace Go.Proofs.Ytflpelbhalndcaa.QV
open Go.RowKit Go.Proofs.YtflpelbhalndcaaW.PrintWords Go.Proofs.YtflpelbhalndcaaW.PrintLast Go.Proofs.YtflpelbhalndcaaW.PrintMore
open Go.Proofs.Ytflpelbhalndcaa.Cmp
set_option linter.unusedVariables false
set_option linter.unusedSimpArgs false

theorem compare_f (a b : Int) : cmp_Compare_int.f a b = some (cmpI a b) := by
  unfold cmp_Compare_int.f cmpI
  simp only [cmp_isNaN_int.f, Option.bind_some]
  by_cases h : a < b
  · simp [h]
  · by_cases h2 : a > b <;> simp [h, h2]

theorem rd_nat (x : List Int) (i : Nat) : rd x (i : Int) = x.getD i 0 := by simp [rd]

theorem or_loop (x : List Int) (hx : x.length < 4611686018427387904) : ∀ (t i k : Nat), i + t = x.length → t + 1 ≤ k → cmp_Or_int.l0 k 0 x (x.length : Int) (i : Int) = some (orI (x.drop i)) := by
  intro t
  induction t with
  | zero =>
    intro i k h hk
    obtain ⟨k, rfl⟩ : ∃ k', k = k' + 1 := ⟨k - 1, by omega⟩
    rw [cmp_Or_int.l0, if_neg (by omega), List.drop_eq_nil_of_le (by omega)]
    rfl
  | succ t ih =>
    intro i k h hk
    obtain ⟨k, rfl⟩ : ∃ k', k = k' + 1 := ⟨k - 1, by omega⟩
    rw [cmp_Or_int.l0, if_pos (by omega), if_pos (by omega), if_pos (by omega), rd_nat, or_drop x i (by omega), w64 (by omega) (by omega)]
    by_cases h0 : x.getD i 0 = 0
    · rw [if_pos h0, if_neg (fun h => h h0)]
      exact ih (i + 1) k (by omega) (by omega)
    · rw [if_neg h0, if_pos h0]

theorem edges_ok (x y : S32) (k : Nat) (hk : 5 ≤ k) : super_compareEdges.f k x.f0 x.f1 x.f2 x.f3 y.f0 y.f1 y.f2 y.f3 = some (cf32 x y) := by
  unfold super_compareEdges.f cf32
  simp only [compare_f, Option.bind_some]
  unfold cmp_Or_int.f
  have := or_loop [cmpI x.f0 y.f0, cmpI x.f1 y.f1, cmpI x.f2 y.f2, cmpI x.f3 y.f3] (by simp) 4 0 k (by simp) hk
  simp only [List.drop_zero] at this
  rw [show cmp_Or_int.l0 k 0 [cmpI x.f0 y.f0, cmpI x.f1 y.f1, cmpI x.f2 y.f2, cmpI x.f3 y.f3] ([cmpI x.f0 y.f0, cmpI x.f1 y.f1, cmpI x.f2 y.f2, cmpI x.f3 y.f3].length : Int) 0 = some (orI [cmpI x.f0 y.f0, cmpI x.f1 y.f1, cmpI x.f2 y.f2, cmpI x.f3 y.f3]) from this]
  rfl

/-- The error of edge i of a graph; 0: none. -/
def edgeErr (N : List S35) (E : List S32) (i : Int) : Int :=
  if (rd_T32 E i).f0 < 0 ∨ (rd_T32 E i).f0 ≥ N.length ∨ (rd_T32 E i).f1 < 0 ∨ (rd_T32 E i).f1 ≥ N.length then 4
  else if (rd_T32 E i).f2 < 1 ∨ (rd_T32 E i).f2 > 5 then 12
  else if (if (rd_T32 E i).f2 = 1 ∨ (rd_T32 E i).f2 = 5 then (rd_T32 E i).f3 ≠ -1 else ((rd_T32 E i).f3 < 0 ∨ (rd_T32 E i).f3 ≥ N.length)) then 4
  else if i > 0 ∧ cf32 (rd_T32 E (i - 1)) (rd_T32 E i) ≥ 0 then 13
  else if fitsF N E (rd_T32 E i) then 0 else 20

theorem edge_ok (N : List S35) (E : List S32) (m : Int) (i : Int) (hE : E.length < 4611686018427387904) (h0 : 0 ≤ i) (h1 : i < E.length) (k : Nat) (hk : 3 * E.length + 14 ≤ k) :
    super_checkEdge.f k N E m i = some (edgeErr N E i) := by
  obtain ⟨k, rfl⟩ : ∃ k', k = k' + 5 := ⟨k - 5, by omega⟩
  unfold super_checkEdge.f edgeErr
  rw [if_pos h0, if_pos h1]
  generalize hd : rd_T32 E i = d
  have j0 : ∀ b : Bool, super_checkEdge.j0 (k + 5) i (N.length : Int) b N E m d.f0 d.f1 d.f2 d.f3 = if b then some 4 else super_checkEdge.j0 (k + 5) i (N.length : Int) false N E m d.f0 d.f1 d.f2 d.f3 := by
    intro b
    cases b with
    | false => rfl
    | true => rw [super_checkEdge.j0, if_pos rfl]; rfl
  by_cases c : d.f0 < 0 ∨ d.f0 ≥ N.length ∨ d.f1 < 0 ∨ d.f1 ≥ N.length
  · rw [if_pos c]
    by_cases c1 : d.f0 < 0
    · rw [if_pos c1, j0]; rfl
    · rw [if_neg c1]
      by_cases c2 : d.f0 ≥ N.length
      · rw [if_pos c2, j0]; rfl
      · rw [if_neg c2]
        by_cases c3 : d.f1 < 0
        · rw [if_pos c3, j0]; rfl
        · rw [if_neg c3, j0, show decide (d.f1 ≥ (N.length : Int)) = true from decide_eq_true (by omega)]; rfl
  · rw [if_neg c, if_neg (by omega), if_neg (by omega), if_neg (by omega), show decide (d.f1 ≥ (N.length : Int)) = false from decide_eq_false (by omega), super_checkEdge.j0, if_neg (by simp)]
    have j1 : super_checkEdge.j1 (k + 4) i (N.length : Int) true N E m d.f0 d.f1 d.f2 d.f3 = some 12 := by rw [super_checkEdge.j1, if_pos rfl]
    by_cases c4 : d.f2 < 1 ∨ d.f2 > 5
    · rw [if_pos c4]
      by_cases c5 : d.f2 < 1
      · rw [if_pos c5, j1]
      · rw [if_neg c5, show decide (d.f2 > 5) = true from decide_eq_true (by omega), j1]
    · rw [if_neg c4, if_neg (show ¬ d.f2 < 1 by omega), show decide (d.f2 > 5) = false from decide_eq_false (by omega), super_checkEdge.j1, if_neg (by simp)]
      -- the rest, from j3 on
      have j3t : super_checkEdge.j3 (k + 2) i true N E m d.f0 d.f1 d.f2 d.f3 = some 4 := by rw [super_checkEdge.j3, if_pos rfl]
      have j4 : ∀ b : Bool, (d.f2 = 3 ∨ d.f2 = 4 → 0 ≤ d.f3 ∧ d.f3 < (N.length : Int)) → super_checkEdge.j4 (k + 1) b N E m d.f0 d.f1 d.f2 d.f3 = some (if b then 13 else if fitsF N E d then 0 else 20) := by
        intro b h4
        rw [super_checkEdge.j4]
        cases b with
        | true => rfl
        | false =>
          rw [if_neg (by simp), fits_ok N E m d hE k (by omega) (by omega) (by omega) (by omega) (by omega) h4 (by omega)]
          cases fitsF N E d <;> rfl
      have j3 : (d.f2 = 3 ∨ d.f2 = 4 → 0 ≤ d.f3 ∧ d.f3 < (N.length : Int)) → super_checkEdge.j3 (k + 2) i false N E m d.f0 d.f1 d.f2 d.f3 = some (if i > 0 ∧ cf32 (rd_T32 E (i - 1)) d ≥ 0 then 13 else if fitsF N E d then 0 else 20) := by
        intro h4
        rw [super_checkEdge.j3, if_neg (by simp)]
        by_cases c6 : i > 0
        · rw [if_pos c6, w64 (by omega) (by omega), if_pos (by omega), if_pos (by omega), edges_ok _ _ _ (by omega)]
          simp only [Option.bind_some]
          rw [j4 _ h4]
          by_cases c7 : cf32 (rd_T32 E (i - 1)) d ≥ 0
          · rw [show decide (cf32 (rd_T32 E (i - 1)) d ≥ 0) = true from decide_eq_true c7, if_pos (show (i > 0 ∧ cf32 (rd_T32 E (i - 1)) d ≥ 0) from ⟨c6, c7⟩)]; rfl
          · rw [show decide (cf32 (rd_T32 E (i - 1)) d ≥ 0) = false from decide_eq_false c7, if_neg (show ¬ (i > 0 ∧ cf32 (rd_T32 E (i - 1)) d ≥ 0) from fun h => c7 h.2)]; rfl
        · rw [if_neg c6, j4 _ h4, if_neg (show ¬ (i > 0 ∧ cf32 (rd_T32 E (i - 1)) d ≥ 0) from fun h => c6 h.1)]; rfl
      have j2 : ∀ b : Bool, (b = true ↔ d.f2 = 1 ∨ d.f2 = 5) → super_checkEdge.j2 (k + 3) i (N.length : Int) b N E m d.f0 d.f1 d.f2 d.f3 =
          some (if (if d.f2 = 1 ∨ d.f2 = 5 then d.f3 ≠ -1 else (d.f3 < 0 ∨ d.f3 ≥ N.length)) then 4 else if i > 0 ∧ cf32 (rd_T32 E (i - 1)) d ≥ 0 then 13 else if fitsF N E d then 0 else 20) := by
        intro b hb
        rw [super_checkEdge.j2]
        by_cases c8 : d.f2 = 1 ∨ d.f2 = 5
        · rw [if_pos (hb.2 c8)]
          simp only [if_pos c8]
          by_cases c9 : d.f3 = -1
          · rw [if_pos c9, j3 (by omega), if_neg (show ¬ (d.f3 ≠ -1) from fun h => h c9)]
          · rw [if_neg c9, j3t, if_pos c9]
        · rw [if_neg (fun h => c8 (hb.1 h))]
          simp only [if_neg c8]
          by_cases c9 : d.f3 < 0
          · rw [if_pos c9, j3t, if_pos (Or.inl c9)]
          · rw [if_neg c9]
            by_cases c10 : d.f3 ≥ N.length
            · rw [show decide (d.f3 ≥ (N.length : Int)) = true from decide_eq_true c10, j3t, if_pos (Or.inr c10)]
            · rw [show decide (d.f3 ≥ (N.length : Int)) = false from decide_eq_false c10, j3 (by omega), if_neg (show ¬ (d.f3 < 0 ∨ d.f3 ≥ (N.length : Int)) by omega)]
      by_cases c11 : d.f2 = 1
      · rw [if_pos c11, j2 true (by simp [c11])]
      · rw [if_neg c11, j2 (d.f2 == 5) (by simp [c11])]
end Go.Proofs.Ytflpelbhalndcaa.QV
