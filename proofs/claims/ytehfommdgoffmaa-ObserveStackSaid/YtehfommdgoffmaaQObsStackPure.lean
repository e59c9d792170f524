/- The law of the pending calls, over the printed functions: for every record shorter than 2^43 steps and every step. -/
import Derived.Test.YtehfommdgoffmaaQObsx6
import Derived.Test.YtehfommdgoffmaaQObsc
namespace Go.Proofs.Ytehfommdgoffmaa.QObs
open Go.RowKit Go.Proofs.YtehfommdgoffmaaW.PrintWords Go.Proofs.YtehfommdgoffmaaW.PrintLast Go.Proofs.YtehfommdgoffmaaW.PrintMore
set_option linter.unusedVariables false
set_option linter.unusedSimpArgs false

theorem rd_mid (a b : List Int) (x : Int) : rd (a ++ x :: b) (a.length : Int) = x := by simp [rd, List.getD_eq_getElem?_getD]

theorem rev_loop : ∀ (n : Nat) (a m b : List Int) (k : Nat), m.length ≤ n → n < k → (a ++ m ++ b).length < 4611686018427387904 →
    slices_Reverse_int_int.l0 k (a ++ m ++ b) (a.length : Int) ((a.length : Int) + m.length - 1) = some (a ++ m.reverse ++ b) := by
  intro n
  induction n with
  | zero =>
    intro a m b k hm hk hl
    obtain ⟨k, rfl⟩ : ∃ k', k = k' + 1 := ⟨k - 1, by omega⟩
    obtain rfl : m = [] := List.length_eq_zero_iff.1 (by omega)
    unfold slices_Reverse_int_int.l0
    rw [if_neg (by simp; omega)]
    simp
  | succ n ih =>
    intro a m b k hm hk hl
    obtain ⟨k, rfl⟩ : ∃ k', k = k' + 1 := ⟨k - 1, by omega⟩
    unfold slices_Reverse_int_int.l0
    match m with
    | [] => rw [if_neg (by simp; omega)]; simp
    | x :: t =>
      rcases List.eq_nil_or_concat t with rfl | ⟨m', y, rfl⟩
      · rw [if_neg (by simp)]; simp
      · have hl2 : a.length + (m'.length + 2) + b.length < 4611686018427387904 := by
          simp at hl; omega
        have ej : (a.length : Int) + ((x :: m'.concat y).length : Int) - 1 = ((a.length + (m'.length + 1) : Nat) : Int) := by
          simp; omega
        rw [ej]
        have el : (a ++ x :: m'.concat y ++ b) = a ++ x :: (m' ++ y :: b) := by simp
        have el2 : (a ++ x :: m'.concat y ++ b) = (a ++ x :: m') ++ y :: b := by simp
        have e1 : rd (a ++ x :: m'.concat y ++ b) (a.length : Int) = x := by rw [el]; exact rd_mid _ _ _
        have e2 : rd (a ++ x :: m'.concat y ++ b) ((a.length + (m'.length + 1) : Nat) : Int) = y := by
          rw [el2]
          have := rd_mid (a ++ x :: m') b y
          simpa using this
        have hlen : ((a ++ x :: m'.concat y ++ b).length : Int) = a.length + (m'.length + 2) + b.length := by simp; omega
        rw [if_pos (by omega), if_pos (by omega), if_pos (by rw [hlen]; omega), if_pos (by omega), if_pos (by rw [hlen]; omega), e1, e2]
        have es : (((a ++ x :: m'.concat y ++ b).set (a.length : Int).toNat y).set ((a.length + (m'.length + 1) : Nat) : Int).toNat x) = (a ++ [y]) ++ m' ++ (x :: b) := by
          rw [el]
          simp only [Int.toNat_natCast]
          rw [List.set_append_right _ _ (by omega), Nat.sub_self, List.set_cons_zero, List.set_append_right _ _ (by omega)]
          have : a.length + (m'.length + 1) - a.length = m'.length + 1 := by omega
          rw [this, List.set_cons_succ, List.set_append_right _ _ (by omega), Nat.sub_self, List.set_cons_zero]
          simp
        rw [es, w64 (by omega) (by omega), w64 (by omega) (by omega)]
        have hi := ih (a ++ [y]) m' (x :: b) k (by simp at hm; omega) (by omega) (by simp; omega)
        have ei : ((a ++ [y]).length : Int) = (a.length : Int) + 1 := by simp
        have ej2 : ((a ++ [y]).length : Int) + (m'.length : Int) - 1 = ((a.length + (m'.length + 1) : Nat) : Int) - 1 := by simp; omega
        rw [ei] at hi
        rw [show ((a.length : Int) + 1 + (m'.length : Int) - 1) = ((a.length + (m'.length + 1) : Nat) : Int) - 1 by push_cast; omega] at hi
        rw [hi]
        simp

theorem rev_ok (l : List Int) (k : Nat) (hk : l.length < k) (hl : l.length < 4611686018427387904) : slices_Reverse_int_int.f k l = some l.reverse := by
  unfold slices_Reverse_int_int.f
  rw [w64 (by omega) (by omega)]
  have := rev_loop l.length [] l [] k (Nat.le_refl _) hk (by simpa using hl)
  simpa using this

/-- The calls that are pending at a step, innermost first. -/
def chain (l : List S50) : Nat → Int → List Int
  | 0, _ => []
  | n + 1, i => if (rd_T50 l i).f3 < 0 then [] else if (rd_T50 l i).f3 ≥ i then [] else (rd_T50 l i).f3 :: chain l n (rd_T50 l i).f3

theorem chain_len (l : List S50) : ∀ n i, (chain l n i).length ≤ n
  | 0, _ => by simp [chain]
  | n + 1, i => by
    unfold chain
    split
    · simp
    · split
      · simp
      · have := chain_len l n (rd_T50 l i).f3
        simp; omega

theorem chain_at (l : List S50) : ∀ n i j, (h : j < (chain l n i).length) → 0 ≤ (chain l n i)[j] ∧ (chain l n i)[j] < i ∧
    ∀ h2 : j + 1 < (chain l n i).length, (chain l n i)[j + 1] = (rd_T50 l (chain l n i)[j]).f3 ∧ (chain l n i)[j + 1] < (chain l n i)[j]
  | 0, _, j, h => by simp [chain] at h
  | n + 1, i, j, h => by
    by_cases h1 : (rd_T50 l i).f3 < 0
    · simp [chain, h1] at h
    · by_cases h2 : (rd_T50 l i).f3 ≥ i
      · simp [chain, h1, h2] at h
      · have e : chain l (n + 1) i = (rd_T50 l i).f3 :: chain l n (rd_T50 l i).f3 := by rw [chain, if_neg h1, if_neg h2]
        generalize hc : (rd_T50 l i).f3 = c at *
        simp only [e] at h ⊢
        match j with
        | 0 =>
          refine ⟨by simpa using h1, by simpa using h2, fun h3 => ?_⟩
          have h4 : 0 < (chain l n c).length := by simpa using h3
          have ih := chain_at l n c 0 h4
          have e0 : (chain l n c)[0] = (rd_T50 l c).f3 := by
            match n with
            | 0 => simp [chain] at h4
            | n + 1 =>
              by_cases h5 : (rd_T50 l c).f3 < 0
              · simp [chain, h5] at h4
              · by_cases h6 : (rd_T50 l c).f3 ≥ c
                · simp [chain, h5, h6] at h4
                · have : chain l (n + 1) c = (rd_T50 l c).f3 :: chain l n (rd_T50 l c).f3 := by rw [chain, if_neg h5, if_neg h6]
                  simp [this]
          simp only [List.getElem_cons_succ, List.getElem_cons_zero]
          exact ⟨e0, ih.2.1⟩
        | j + 1 =>
          have h4 : j < (chain l n c).length := by simpa using h
          have ih := chain_at l n c j h4
          simp only [List.getElem_cons_succ]
          refine ⟨ih.1, by omega, fun h5 => ?_⟩
          exact ih.2.2 (by simpa using h5)

theorem obs_loop (l : List S50) (a0 : Int) : ∀ (n : Nat) (i : Int) (acc : List Int) (k : Nat), 0 ≤ i → i < l.length → i < n → acc.length + n < 17592186044416 → acc.length + 2 * n + 5 ≤ k →
    observe_Stack.l0 k acc i a0 l = some (acc ++ chain l n i).reverse := by
  intro n
  induction n with
  | zero => intro i acc k h0 h1 h2; omega
  | succ n ih =>
    intro i acc k h0 h1 h2 hb hk
    obtain ⟨k, rfl⟩ : ∃ k', k = k' + 1 := ⟨k - 1, by omega⟩
    unfold observe_Stack.l0
    rw [if_pos h0, if_pos h1]
    unfold chain
    by_cases h3 : (rd_T50 l i).f3 < 0
    · rw [if_pos h3, if_pos h3, rev_ok acc k (by omega) (by omega)]
      simp
    · rw [if_neg h3, if_neg h3]
      by_cases h4 : (rd_T50 l i).f3 ≥ i
      · rw [if_pos h4, if_pos h4, rev_ok acc k (by omega) (by omega)]
        simp
      · rw [if_neg h4, if_neg h4, if_pos (by omega), ih _ _ k (by omega) (by omega) (by omega) (by simp; omega) (by simp; omega)]
        simp

theorem ref_loop (l : List S50) (a0 : Int) : ∀ (n : Nat) (i : Int) (acc : List Int) (k : Nat), 0 ≤ i → i < l.length → i < n → acc.length + n < 17592186044416 → n < k →
    dataflowref16_Stack.l0 k i acc (rd_T50 l i).f3 a0 l = some ((chain l n i).reverse ++ acc) := by
  intro n
  induction n with
  | zero => intro i acc k h0 h1 h2; omega
  | succ n ih =>
    intro i acc k h0 h1 h2 hb hk
    obtain ⟨k, rfl⟩ : ∃ k', k = k' + 1 := ⟨k - 1, by omega⟩
    unfold dataflowref16_Stack.l0 chain
    by_cases h3 : (rd_T50 l i).f3 < 0
    · rw [if_neg (by omega), if_pos h3]
      simp
    · rw [if_pos (by omega), if_neg h3]
      by_cases h4 : (rd_T50 l i).f3 ≥ i
      · rw [if_neg (by omega), if_pos h4]
        simp
      · rw [if_pos (by omega), if_neg h4]
        simp only [Option.bind_some]
        rw [if_pos (by simp; omega), if_pos (by omega), if_pos (by omega), ih _ _ k (by omega) (by omega) (by omega) (by simp; omega) (by omega)]
        simp

theorem same_loop (x : List Int) : ∀ (m i k : Nat), i + m = x.length → m < k → x.length < 4611686018427387904 → dataflowref12_SameInts.l0 k x x (i : Int) = some true := by
  intro m
  induction m with
  | zero =>
    intro i k h hk hl
    obtain ⟨k, rfl⟩ : ∃ k', k = k' + 1 := ⟨k - 1, by omega⟩
    unfold dataflowref12_SameInts.l0
    rw [if_neg (by omega)]
  | succ m ih =>
    intro i k h hk hl
    obtain ⟨k, rfl⟩ : ∃ k', k = k' + 1 := ⟨k - 1, by omega⟩
    unfold dataflowref12_SameInts.l0
    rw [if_pos (by omega), if_pos (by omega), if_pos (by omega), if_pos rfl, w64 (by omega) (by omega)]
    exact ih (i + 1) k (by omega) (by omega) hl

theorem same_ok (x : List Int) (k : Nat) (hk : x.length < k) (hl : x.length < 4611686018427387904) : dataflowref13_SameInts.f k x x = some true := by
  unfold dataflowref13_SameInts.f dataflowref12_SameInts.f
  rw [if_pos rfl, show (0 : Int) = ((0 : Nat) : Int) from rfl, same_loop x x.length 0 k (by omega) hk hl]
  rfl

theorem law_loop (l : List S50) (a0 step : Int) (n : Nat) (hs : step ≤ l.length) (hn : n < 4611686018427387904) : ∀ (m i k : Nat), i + m = (chain l n step).length → m + 14 ≤ k →
    dataflowlaw16_ObserveStack.l0 k step (chain l n step).reverse (i : Int) a0 l = some true := by
  have hcl := chain_len l n step
  intro m
  induction m with
  | zero =>
    intro i k h hk
    obtain ⟨k, rfl⟩ : ∃ k', k = k' + 1 := ⟨k - 1, by omega⟩
    unfold dataflowlaw16_ObserveStack.l0
    rw [if_neg (by rw [List.length_reverse]; omega), awake_ok k (by omega)]
    rfl
  | succ m ih =>
    intro i k h hk
    obtain ⟨k, rfl⟩ : ∃ k', k = k' + 1 := ⟨k - 1, by omega⟩
    unfold dataflowlaw16_ObserveStack.l0
    have hr : ∀ j : Nat, (hj : j < (chain l n step).length) → rd (chain l n step).reverse (j : Int) = (chain l n step)[(chain l n step).length - 1 - j]'(by omega) := by
      intro j hj
      rw [rd_nat, List.getD_eq_getElem?_getD, List.getElem?_eq_getElem (by rw [List.length_reverse]; exact hj), List.getElem_reverse]
      rfl
    have h0 := chain_at l n step ((chain l n step).length - 1 - i) (by omega)
    rw [if_pos (by rw [List.length_reverse]; omega), if_pos (by omega), hr i (by omega), if_neg (by omega), if_neg (by omega)]
    have hnext := ih (i + 1) k (by omega) (by omega)
    have ew : wrap64 ((i : Int) + 1) = ((i + 1 : Nat) : Int) := by rw [w64 (by omega) (by omega)]; push_cast; rfl
    by_cases hi : (i : Int) > 0
    · have ew2 : wrap64 ((i : Int) - 1) = ((i - 1 : Nat) : Int) := by rw [w64 (by omega) (by omega)]; omega
      have h1 := h0.2.2 (by omega)
      have e3 : (chain l n step).length - 1 - i + 1 = (chain l n step).length - 1 - (i - 1) := by omega
      simp only [e3] at h1
      rw [if_pos hi, ew2, if_pos (by omega), if_pos (by rw [List.length_reverse]; omega), hr (i - 1) (by omega), if_neg (by omega), if_pos (by omega), if_pos (by omega), if_pos h1.1.symm, ew]
      exact hnext
    · rw [if_neg hi, ew]
      exact hnext

theorem pure_ObserveStack (a0 : Int) (l : List S50) (step : Int) (hl : l.length < 8796093022208) : ∃ k, dataflowlaw16_ObserveStack.f k a0 l step = some true := by
  refine ⟨3 * step.toNat + 60, ?_⟩
  unfold dataflowlaw16_ObserveStack.f
  by_cases h0 : step < 0 ∨ step ≥ l.length
  · have e1 : observe_Stack.f (3 * step.toNat + 60) a0 l step = some [] := by
      unfold observe_Stack.f
      by_cases h1 : step < 0
      · rw [if_pos h1]; simp [observe_Stack.j0]
      · rw [if_neg h1]
        have : step ≥ (l.length : Int) := by omega
        simp [observe_Stack.j0, this]
    have e2 : dataflowref16_Stack.f (3 * step.toNat + 60) a0 l step = some [] := by
      unfold dataflowref16_Stack.f
      by_cases h1 : step < 0
      · rw [if_pos h1]; simp [dataflowref16_Stack.j0]
      · rw [if_neg h1]
        have : step ≥ (l.length : Int) := by omega
        simp [dataflowref16_Stack.j0, this]
    rw [e1, e2]
    simp only [Option.bind_some]
    rw [same_ok [] _ (by simp) (by simp)]
    simp only [Option.bind_some, if_true]
    unfold dataflowlaw16_ObserveStack.l0
    rw [if_neg (by simp), awake_ok _ (by omega)]
    rfl
  · have h1 : 0 ≤ step := by omega
    have h2 : step < l.length := by omega
    have e1 : observe_Stack.f (3 * step.toNat + 60) a0 l step = some (chain l (step.toNat + 1) step).reverse := by
      unfold observe_Stack.f
      rw [if_neg (by omega)]
      have : ¬ (step ≥ (l.length : Int)) := by omega
      unfold observe_Stack.j0
      simp only [this, decide_false, Bool.false_eq_true, if_false]
      have := obs_loop l a0 (step.toNat + 1) step [] (3 * step.toNat + 59) h1 h2 (by omega) (by simp; omega) (by simp; omega)
      simpa using this
    have e2 : dataflowref16_Stack.f (3 * step.toNat + 60) a0 l step = some (chain l (step.toNat + 1) step).reverse := by
      unfold dataflowref16_Stack.f
      rw [if_neg (by omega)]
      have : ¬ (step ≥ (l.length : Int)) := by omega
      unfold dataflowref16_Stack.j0
      simp only [this, decide_false, Bool.false_eq_true, if_false]
      rw [if_pos h1, if_pos h2]
      have := ref_loop l a0 (step.toNat + 1) step [] (3 * step.toNat + 59) h1 h2 (by omega) (by simp; omega) (by omega)
      simpa using this
    have hcl := chain_len l (step.toNat + 1) step
    rw [e1, e2]
    simp only [Option.bind_some]
    rw [same_ok _ _ (by rw [List.length_reverse]; omega) (by rw [List.length_reverse]; omega)]
    simp only [Option.bind_some, if_true]
    exact law_loop l a0 step (step.toNat + 1) (by omega) (by omega) (chain l (step.toNat + 1) step).length 0 _ (by omega) (by omega)

#print axioms pure_ObserveStack
end Go.Proofs.Ytehfommdgoffmaa.QObs
