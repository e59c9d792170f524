/- The law of the allocation sites, over the printed functions: for every unit of at most 1048576 instructions in all. -/
import Derived.Test.YtehfommdgoffmaaQObsx8
import Derived.Test.YtehfommdgoffmaaQObsc
namespace Go.Proofs.Ytehfommdgoffmaa.QObs
open Go.RowKit Go.Proofs.YtehfommdgoffmaaW.PrintWords Go.Proofs.YtehfommdgoffmaaW.PrintLast Go.Proofs.YtehfommdgoffmaaW.PrintMore
set_option linter.unusedVariables false
set_option linter.unusedSimpArgs false

/-- The sites of a function's code, from instruction j on. -/
def sitesIn (i : Int) : Int → List S72 → List S43
  | _, [] => []
  | j, y :: t => if y.f0 = 6 then ⟨i, j, y.f5⟩ :: sitesIn i (j + 1) t else sitesIn i (j + 1) t

/-- The sites of functions, from function i on. -/
def sitesAll : Int → List S70 → List S43
  | _, [] => []
  | i, x :: t => sitesIn i 0 x.f6 ++ sitesAll (i + 1) t

def total (l : List S70) : Nat := (l.map fun x => x.f6.length).sum
def fuelOf : List S70 → Nat
  | [] => 1
  | x :: t => x.f6.length + 2 + fuelOf t

theorem total_cons (x : S70) (t : List S70) : total (x :: t) = x.f6.length + total t := by simp [total]

theorem sitesIn_len (i : Int) : ∀ (t : List S72) (j : Int), (sitesIn i j t).length ≤ t.length
  | [], _ => by simp [sitesIn]
  | y :: t, j => by
    have := sitesIn_len i t (j + 1)
    unfold sitesIn
    split <;> simp <;> omega

theorem sitesAll_len : ∀ (t : List S70) (i : Int), (sitesAll i t).length ≤ total t
  | [], _ => by simp [sitesAll]
  | x :: t, i => by
    have h1 := sitesIn_len i x.f6 0
    have h2 := sitesAll_len t (i + 1)
    rw [total_cons]
    simp [sitesAll]; omega

theorem rd72 (pre t : List S72) (y : S72) : rd_T72 (pre ++ y :: t) (pre.length : Int) = y := by simp [rd_T72, List.getD_eq_getElem?_getD]
theorem rd70 (pre t : List S70) (y : S70) : rd_T70 (pre ++ y :: t) (pre.length : Int) = y := by simp [rd_T70, List.getD_eq_getElem?_getD]

theorem in1 (x4 x10 x11 : Int) (x9 : List S70) : ∀ (t pre : List S72) (acc : List S43) (k : Nat), (pre ++ t).length < 4611686018427387904 → acc.length + t.length < 4398046511104 →
    observe_Sites.l1 (t.length + 1 + k) acc x4 x9 x10 x11 (pre ++ t) ((pre ++ t).length : Int) (pre.length : Int) = observe_Sites.l0 k (acc ++ sitesIn x4 (pre.length : Int) t) x9 x10 (wrap64 (x11 + 1)) := by
  intro t
  induction t with
  | nil =>
    intro pre acc k h1 h2
    rw [show ([] : List S72).length + 1 + k = k + 1 by simp; omega]
    rw [observe_Sites.l1]
    rw [if_neg (by simp)]
    simp [sitesIn]
  | cons y t ih =>
    intro pre acc k h1 h2
    have hl : ((pre ++ y :: t).length : Int) = pre.length + (t.length + 1) := by simp
    have h1' : pre.length + (t.length + 1) < 4611686018427387904 := by simpa using h1
    have h2' : acc.length + (t.length + 1) < 4398046511104 := by simpa using h2
    rw [show (y :: t).length + 1 + k = (t.length + 1 + k) + 1 by simp; omega]
    rw [observe_Sites.l1]
    rw [if_pos (by omega), if_pos (by omega), if_pos (by omega), rd72, w64 (by omega) (by omega)]
    have e1 : pre ++ y :: t = (pre ++ [y]) ++ t := by simp
    have e2 : (pre.length : Int) + 1 = ((pre ++ [y]).length : Int) := by simp
    rw [e1, e2]
    by_cases h6 : y.f0 = 6
    · rw [if_pos h6, if_pos (by omega), ih (pre ++ [y]) _ k (by rw [← e1]; exact h1) (by simp; omega)]
      simp [sitesIn, h6]
    · rw [if_neg h6, ih (pre ++ [y]) _ k (by rw [← e1]; exact h1) (by omega)]
      simp [sitesIn, h6]

theorem out1 : ∀ (t pre : List S70) (acc : List S43) (k : Nat), (pre ++ t).length < 4611686018427387904 → acc.length + total t < 4398046511104 →
    observe_Sites.l0 (fuelOf t + k) acc (pre ++ t) ((pre ++ t).length : Int) (pre.length : Int) = some (acc ++ sitesAll (pre.length : Int) t) := by
  intro t
  induction t with
  | nil =>
    intro pre acc k h1 h2
    rw [show fuelOf [] + k = k + 1 by simp [fuelOf]; omega]
    rw [observe_Sites.l0]
    rw [if_neg (by simp)]
    simp [sitesAll]
  | cons x t ih =>
    intro pre acc k h1 h2
    have hl : ((pre ++ x :: t).length : Int) = pre.length + (t.length + 1) := by simp
    have h1' : pre.length + (t.length + 1) < 4611686018427387904 := by simpa using h1
    rw [total_cons] at h2
    rw [show fuelOf (x :: t) + k = (x.f6.length + 1 + (fuelOf t + k)) + 1 by simp [fuelOf]; omega]
    rw [observe_Sites.l0]
    rw [if_pos (by omega), if_pos (by omega), if_pos (by omega), rd70]
    have hin := in1 (pre.length : Int) ((pre ++ x :: t).length : Int) (pre.length : Int) (pre ++ x :: t) x.f6 [] acc (fuelOf t + k) (by simp; omega) (by omega)
    simp only [List.nil_append, List.length_nil] at hin
    rw [show (0 : Int) = ((0 : Nat) : Int) from rfl, hin, w64 (by omega) (by omega)]
    have e1 : pre ++ x :: t = (pre ++ [x]) ++ t := by simp
    have e2 : (pre.length : Int) + 1 = ((pre ++ [x]).length : Int) := by simp
    have hn := sitesIn_len (pre.length : Int) x.f6 ((0 : Nat) : Int)
    rw [e1, e2, ih (pre ++ [x]) _ k (by rw [← e1]; exact h1) (by rw [List.length_append]; omega)]
    simp [sitesAll]

theorem in2 (a : List S132) (b : Int) (p s : List S70) (x : S70) : ∀ (t pre : List S72) (acc : List S43) (k : Nat), x.f6 = pre ++ t → (pre ++ t).length < 4611686018427387904 → acc.length + t.length < 4398046511104 →
    dataflowref16_Sites.l1 (t.length + 1 + k) acc (p.length : Int) (pre.length : Int) a (p ++ x :: s) b = dataflowref16_Sites.l0 k (acc ++ sitesIn (p.length : Int) (pre.length : Int) t) (wrap64 ((p.length : Int) + 1)) a (p ++ x :: s) b := by
  intro t
  induction t with
  | nil =>
    intro pre acc k h h1 h2
    rw [show ([] : List S72).length + 1 + k = k + 1 by simp; omega]
    rw [dataflowref16_Sites.l1]
    rw [if_pos (by omega), if_pos (by simp; omega), rd70, h, if_neg (by simp)]
    simp [sitesIn]
  | cons y t ih =>
    intro pre acc k h h1 h2
    have hl : ((pre ++ y :: t).length : Int) = pre.length + (t.length + 1) := by simp
    have h1' : pre.length + (t.length + 1) < 4611686018427387904 := by simpa using h1
    have h2' : acc.length + (t.length + 1) < 4398046511104 := by simpa using h2
    rw [show (y :: t).length + 1 + k = (t.length + 1 + k) + 1 by simp; omega]
    rw [dataflowref16_Sites.l1]
    rw [if_pos (by omega), if_pos (by simp; omega), rd70, h, if_pos (by omega), if_pos (by omega), rd72, w64 (by omega) (by omega)]
    have e1 : pre ++ y :: t = (pre ++ [y]) ++ t := by simp
    have e2 : (pre.length : Int) + 1 = ((pre ++ [y]).length : Int) := by simp
    rw [e2]
    by_cases h6 : y.f0 = 6
    · rw [if_pos h6, if_pos (by omega), ih (pre ++ [y]) _ k (by rw [h, e1]) (by rw [← e1]; exact h1) (by simp; omega)]
      simp [sitesIn, h6]
    · rw [if_neg h6, ih (pre ++ [y]) _ k (by rw [h, e1]) (by rw [← e1]; exact h1) (by omega)]
      simp [sitesIn, h6]

theorem out2 (a : List S132) (b : Int) : ∀ (t pre : List S70) (acc : List S43) (k : Nat), (pre ++ t).length < 4611686018427387904 → acc.length + total t < 4398046511104 →
    dataflowref16_Sites.l0 (fuelOf t + k) acc (pre.length : Int) a (pre ++ t) b = some (acc ++ sitesAll (pre.length : Int) t) := by
  intro t
  induction t with
  | nil =>
    intro pre acc k h1 h2
    rw [show fuelOf [] + k = k + 1 by simp [fuelOf]; omega]
    rw [dataflowref16_Sites.l0]
    rw [if_neg (by simp)]
    simp [sitesAll]
  | cons x t ih =>
    intro pre acc k h1 h2
    have hl : ((pre ++ x :: t).length : Int) = pre.length + (t.length + 1) := by simp
    have h1' : pre.length + (t.length + 1) < 4611686018427387904 := by simpa using h1
    rw [total_cons] at h2
    rw [show fuelOf (x :: t) + k = (x.f6.length + 1 + (fuelOf t + k)) + 1 by simp [fuelOf]; omega]
    rw [dataflowref16_Sites.l0]
    rw [if_pos (by omega)]
    have hin := in2 a b pre t x x.f6 [] acc (fuelOf t + k) (by simp) (by simp; omega) (by omega)
    simp only [List.length_nil] at hin
    rw [show (0 : Int) = ((0 : Nat) : Int) from rfl, hin, w64 (by omega) (by omega)]
    have e1 : pre ++ x :: t = (pre ++ [x]) ++ t := by simp
    have e2 : (pre.length : Int) + 1 = ((pre ++ [x]).length : Int) := by simp
    have hn := sitesIn_len (pre.length : Int) x.f6 ((0 : Nat) : Int)
    rw [e1, e2, ih (pre ++ [x]) _ k (by rw [← e1]; exact h1) (by rw [List.length_append]; omega)]
    simp [sitesAll]

theorem law_sites (x : List S43) : ∀ (m i k : Nat), i + m = x.length → m + 14 ≤ k → x.length < 4611686018427387904 → dataflowlaw16_ObserveSites.l0 k x x (i : Int) = some true := by
  intro m
  induction m with
  | zero =>
    intro i k h hk hl
    obtain ⟨k, rfl⟩ : ∃ k', k = k' + 1 := ⟨k - 1, by omega⟩
    unfold dataflowlaw16_ObserveSites.l0
    rw [if_neg (by omega), awake_ok k (by omega)]
    rfl
  | succ m ih =>
    intro i k h hk hl
    obtain ⟨k, rfl⟩ : ∃ k', k = k' + 1 := ⟨k - 1, by omega⟩
    unfold dataflowlaw16_ObserveSites.l0
    rw [if_pos (by omega), if_pos (by omega), if_pos (by omega), if_neg (by simp), w64 (by omega) (by omega)]
    exact ih (i + 1) k (by omega) (by omega) hl

theorem pure_ObserveSites (l0 : List S132) (l1 : List S70) (a : Int) (h : total l1 ≤ 1048576 ∧ l1.length ≤ 1048576) : ∃ k, dataflowlaw16_ObserveSites.f k l0 l1 a = some true := by
  refine ⟨fuelOf l1 + (total l1 + 40), ?_⟩
  have hs := sitesAll_len l1 0
  unfold dataflowlaw16_ObserveSites.f observe_Sites.f dataflowref16_Sites.f
  have e1 := out1 l1 [] [] (total l1 + 40) (by simp; omega) (by simp; omega)
  have e2 := out2 l0 a l1 [] [] (total l1 + 40) (by simp; omega) (by simp; omega)
  simp only [List.nil_append, List.length_nil] at e1 e2
  rw [show (0 : Int) = ((0 : Nat) : Int) from rfl, e1, e2]
  simp only [Option.bind_some, if_true]
  exact law_sites _ (sitesAll ((0 : Nat) : Int) l1).length 0 _ (by omega) (by have : (sitesAll ((0 : Nat) : Int) l1).length ≤ total l1 := hs; omega) (by have : (sitesAll ((0 : Nat) : Int) l1).length ≤ total l1 := hs; omega)

#print axioms pure_ObserveSites
end Go.Proofs.Ytehfommdgoffmaa.QObs
