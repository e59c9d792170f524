/- What super.Check's printed functions compute, in plain words: the edges that enter a function, the fit of an edge. -/
import Derived.Test.YtflpelbhalndcaaQVx3
namespace Go.Proofs.Ytflpelbhalndcaa.QV
open Go.RowKit Go.Proofs.YtflpelbhalndcaaW.PrintWords Go.Proofs.YtflpelbhalndcaaW.PrintLast Go.Proofs.YtflpelbhalndcaaW.PrintMore
open Go.Proofs.Ytflpelbhalndcaa.Cmp
set_option linter.unusedVariables false
set_option linter.unusedSimpArgs false

theorem w64 {x : Int} (h : -9223372036854775808 ≤ x) (h' : x < 9223372036854775808) : wrap64 x = x := by unfold wrap64; omega
theorem rd32_nat (l : List S32) (i : Nat) : rd_T32 l (i : Int) = l.getD i z32 := by simp [rd_T32]

/-- Does an edge call the start of function f? -/
def hit (N : List S35) (f : Int) (d : S32) : Bool := decide (d.f2 = 2) && (decide (d.f1 ≥ 0) && (decide (d.f1 < N.length) && (decide ((rd_T35 N d.f1).f0 = f) && ((rd_T35 N d.f1).f1 == 1))))
/-- Does one of the first edges, all from the call, call the start of function f? -/
def entersL (N : List S35) (call f : Int) : List S32 → Bool
  | [] => false
  | d :: t => if d.f0 = call then (if hit N f d then true else entersL N call f t) else false
def entersF (N : List S35) (E : List S32) (call f : Int) : Bool := entersL N call f (E.drop (bs E.length E call 0 E.length))

theorem bs_le (l : List S32) (key : Int) : ∀ (k i j : Nat), i ≤ j → bs k l key i j ≤ j
  | 0, i, j, h => by simpa [bs] using h
  | k + 1, i, j, h => by
    unfold bs
    split
    · split
      · exact bs_le l key k _ _ (by omega)
      · exact Nat.le_trans (bs_le l key k _ _ (by omega)) (by omega)
    · exact h

theorem enters_loop (N : List S35) (E : List S32) (m call f : Int) (hE : E.length < 4611686018427387904) : ∀ (t i k : Nat), i + t = E.length → 3 * t + 3 ≤ k →
    super_enters.l0 k call f (i : Int) N E m = some (entersL N call f (E.drop i)) := by
  intro t
  induction t with
  | zero =>
    intro i k h hk
    obtain ⟨k, rfl⟩ : ∃ k', k = k' + 2 := ⟨k - 2, by omega⟩
    rw [super_enters.l0, if_neg (by omega), super_enters.j1, if_neg (by simp), List.drop_eq_nil_of_le (by omega)]
    rfl
  | succ t ih =>
    intro i k h hk
    obtain ⟨k, rfl⟩ : ∃ k', k = k' + 3 := ⟨k - 3, by omega⟩
    have hd : E.drop i = (rd_T32 E (i : Int)) :: E.drop (i + 1) := by
      rw [List.drop_eq_getElem_cons (by omega), rd32_nat, List.getD_eq_getElem?_getD, List.getElem?_eq_getElem (by omega)]
      rfl
    have hn := ih (i + 1) k (by omega) (by omega)
    have hw : wrap64 ((i : Int) + 1) = ((i + 1 : Nat) : Int) := by rw [w64 (by omega) (by omega)]; push_cast; rfl
    have j2 : ∀ b : Bool, super_enters.j2 (k + 1) call f (i : Int) b N E m = some (if b then true else entersL N call f (E.drop (i + 1))) := by
      intro b
      rw [super_enters.j2, hw, hn]
      cases b <;> rfl
    rw [super_enters.l0, if_pos (by omega), if_pos (by omega), super_enters.j1, hd, entersL]
    generalize rd_T32 E (i : Int) = d
    by_cases h0 : d.f0 = call
    · rw [if_pos (by simpa using h0), if_pos h0, if_pos (by omega), if_pos (by omega), hit]
      by_cases h2 : d.f2 = 2
      · rw [if_pos h2]
        by_cases h3 : d.f1 ≥ 0
        · rw [if_pos h3]
          by_cases h4 : d.f1 < (N.length : Int)
          · rw [if_pos h4, if_pos (by omega)]
            by_cases h5 : (rd_T35 N d.f1).f0 = f
            · rw [if_pos h5, j2]; simp [h2, h3, h4, h5]
            · rw [if_neg h5, j2]; simp [h5]
          · rw [if_neg h4, j2]; simp [h4]
        · rw [if_neg h3, j2]; simp [h3]
      · rw [if_neg h2, j2]; simp [h2]
    · rw [if_neg (by simpa using h0), if_neg h0]

theorem enters_ok (N : List S35) (E : List S32) (m call f : Int) (hE : E.length < 4611686018427387904) (k : Nat) (hk : 3 * E.length + 3 ≤ k) : super_enters.f k N E m call f = some (entersF N E call f) := by
  unfold super_enters.f api_SEdge_197.f
  simp only [Option.bind_some]
  have hb := bs_le E call E.length 0 E.length (Nat.zero_le _)
  exact enters_loop N E m call f hE (E.length - bs E.length E call 0 E.length) _ k (by omega) (by omega)

/-- Does an edge whose numbers are in range fit its kind? -/
def fitsF (N : List S35) (E : List S32) (d : S32) : Bool :=
  if d.f2 = 1 ∨ d.f2 = 5 then (decide (d.f2 = 5 → (rd_T35 N d.f0).f1 = 2) && (decide ((rd_T35 N d.f0).f0 = (rd_T35 N d.f1).f0) && (decide ((rd_T35 N d.f0).f1 ≠ 3) && (decide ((rd_T35 N d.f0).f1 ≠ 4) && ((rd_T35 N d.f1).f1 != 1)))))
  else if d.f2 = 2 then (decide ((rd_T35 N d.f0).f1 = 2) && (decide (d.f3 = d.f0) && ((rd_T35 N d.f1).f1 == 1)))
  else (decide ((rd_T35 N d.f0).f1 = if d.f2 = 4 then 4 else 3) && (decide ((rd_T35 N d.f3).f1 = 2) && (decide ((rd_T35 N d.f1).f0 = (rd_T35 N d.f3).f0) && (decide ((rd_T35 N d.f1).f1 ≠ 1) && entersF N E d.f3 (rd_T35 N d.f0).f0))))

theorem fits_j1 (N : List S35) (E : List S32) (m x7 d0 d1 d2 d3 a0 a1 a2 b0 b1 b2 : Int) (hE : E.length < 4611686018427387904) (k : Nat) (hk : 3 * E.length + 4 ≤ k) (h0 : 0 ≤ d3) (h1 : d3 < N.length) :
    super_fits.j1 k x7 N E m d0 d1 d2 d3 a0 a1 a2 b0 b1 b2 = some (decide (a1 = x7) && (decide ((rd_T35 N d3).f1 = 2) && (decide (b0 = (rd_T35 N d3).f0) && (decide (b1 ≠ 1) && entersF N E d3 a0)))) := by
  obtain ⟨k, rfl⟩ : ∃ k', k = k' + 1 := ⟨k - 1, by omega⟩
  rw [super_fits.j1, if_pos h0, if_pos h1]
  by_cases c1 : a1 = x7
  · rw [if_pos c1]
    by_cases c2 : (rd_T35 N d3).f1 = 2
    · rw [if_pos c2]
      by_cases c3 : b0 = (rd_T35 N d3).f0
      · rw [if_pos c3]
        by_cases c4 : b1 = 1
        · rw [if_pos c4]; simp [c4]
        · rw [if_neg c4, enters_ok N E m d3 a0 hE k (by omega)]; simp [c1, c2, c3, c4]
      · rw [if_neg c3]; simp [c3]
    · rw [if_neg c2]; simp [c2]
  · rw [if_neg c1]; simp [c1]

theorem fits_ok (N : List S35) (E : List S32) (m : Int) (d : S32) (hE : E.length < 4611686018427387904) (k : Nat) (hk : 3 * E.length + 6 ≤ k) (h0 : 0 ≤ d.f0) (h1 : d.f0 < N.length) (h2 : 0 ≤ d.f1) (h3 : d.f1 < N.length)
    (h4 : d.f2 = 3 ∨ d.f2 = 4 → 0 ≤ d.f3 ∧ d.f3 < N.length) (h5 : 1 ≤ d.f2 ∧ d.f2 ≤ 5) :
    super_fits.f k N E m d.f0 d.f1 d.f2 d.f3 = some (fitsF N E d) := by
  obtain ⟨k, rfl⟩ : ∃ k', k = k' + 1 := ⟨k - 1, by omega⟩
  unfold super_fits.f fitsF
  rw [if_pos h0, if_pos h1, if_pos h2, if_pos h3]
  generalize ha : rd_T35 N d.f0 = a
  generalize hb : rd_T35 N d.f1 = b
  by_cases c1 : d.f2 = 1
  · rw [if_pos c1, super_fits.j0, if_pos (by simp [c1]), if_neg (by omega), if_pos (Or.inl c1)]
    by_cases c2 : a.f0 = b.f0
    · rw [if_pos c2]
      by_cases c3 : a.f1 = 3
      · rw [if_pos c3]; simp [c3]
      · rw [if_neg c3]
        by_cases c4 : a.f1 = 4
        · rw [if_pos c4]; simp [c4]
        · rw [if_neg c4]; simp [c1, c2, c3, c4]
    · rw [if_neg c2]; simp [c2]
  · rw [if_neg c1]
    by_cases c5 : d.f2 = 5
    · rw [super_fits.j0, if_pos (by simp [c5]), if_pos c5, if_pos (Or.inr c5)]
      by_cases c6 : a.f1 = 2
      · rw [if_pos c6]
        by_cases c2 : a.f0 = b.f0
        · rw [if_pos c2, if_neg (by omega), if_neg (by omega)]; simp [c2, c6]
        · rw [if_neg c2]; simp [c2]
      · rw [if_neg c6]; simp [c5, c6]
    · rw [super_fits.j0, if_neg (by simpa using c5), if_neg (show ¬ (d.f2 = 1 ∨ d.f2 = 5) by omega)]
      by_cases c2 : d.f2 = 2
      · rw [if_pos c2, if_pos c2]
        by_cases c6 : a.f1 = 2
        · rw [if_pos c6]
          by_cases c7 : d.f3 = d.f0
          · rw [if_pos c7]; simp [c6, c7]
          · rw [if_neg c7]; simp [c7]
        · rw [if_neg c6]; simp [c6]
      · rw [if_neg c2, if_neg c2]
        obtain ⟨h6, h7⟩ := h4 (by omega)
        by_cases c4 : d.f2 = 4
        · rw [if_pos c4, fits_j1 N E m 4 _ _ _ _ _ _ _ _ _ _ hE k (by omega) h6 h7, if_pos c4]
        · rw [if_neg c4, fits_j1 N E m 3 _ _ _ _ _ _ _ _ _ _ hE k (by omega) h6 h7, if_neg c4]
end Go.Proofs.Ytflpelbhalndcaa.QV
