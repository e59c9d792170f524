/- The law of the facts about references and integers, over the printed functions: for every record of at most 1048576 values in all. -/
import Derived.Test.YtehfommdgoffmaaQObsx7
import Derived.Test.YtehfommdgoffmaaAsc
namespace Go.Proofs.Ytehfommdgoffmaa.QObs
open Go.RowKit Go.Lib Go.Sort Go.Proofs.Ytehfommdgoffmaa.Cmp Go.Proofs.Ytehfommdgoffmaa.Asc Go.Proofs.YtehfommdgoffmaaW.PrintWords Go.Proofs.YtehfommdgoffmaaW.PrintLast Go.Proofs.YtehfommdgoffmaaW.PrintMore
set_option linter.unusedVariables false
set_option linter.unusedSimpArgs false
set_option linter.unusedSectionVars false

theorem awake_ok : ∀ k, 12 ≤ k → dataflowlaw16_awake.f k = some true := by
  intro k hk
  induction hk with
  | refl => kernel_rfl
  | step _ ih => exact dataflowlaw16_awake.mono _ _ ih

/-- The facts about references of a step's values, from variable j on. -/
def ptsIn (o : S50) : Int → List S61 → List S53
  | _, [] => []
  | j, y :: t => if y.f0 = 3 then ⟨o.f0, j, y.f2⟩ :: ptsIn o (j + 1) t else ptsIn o (j + 1) t
def ptsAll : List S50 → List S53
  | [] => []
  | o :: t => ptsIn o 0 o.f4 ++ ptsAll t
/-- The facts about integers. -/
def intIn (o : S50) : Int → List S61 → List S32
  | _, [] => []
  | j, y :: t => if y.f0 = 1 then ⟨o.f0, o.f1, j, y.f1⟩ :: intIn o (j + 1) t else intIn o (j + 1) t
def intAll : List S50 → List S32
  | [] => []
  | o :: t => intIn o 0 o.f4 ++ intAll t
def total (l : List S50) : Nat := (l.map fun x => x.f4.length).sum
def fuelOf : List S50 → Nat
  | [] => 1
  | x :: t => x.f4.length + 2 + fuelOf t
theorem total_cons (x : S50) (t : List S50) : total (x :: t) = x.f4.length + total t := by simp [total]
theorem ptsIn_len (o : S50) : ∀ (t : List S61) (j : Int), (ptsIn o j t).length ≤ t.length
  | [], _ => by simp [ptsIn]
  | y :: t, j => by have := ptsIn_len o t (j + 1); unfold ptsIn; split <;> simp <;> omega
theorem ptsAll_len : ∀ (t : List S50), (ptsAll t).length ≤ total t
  | [] => by simp [ptsAll]
  | x :: t => by have h1 := ptsIn_len x x.f4 0; have h2 := ptsAll_len t; rw [total_cons]; simp [ptsAll]; omega
theorem intIn_len (o : S50) : ∀ (t : List S61) (j : Int), (intIn o j t).length ≤ t.length
  | [], _ => by simp [intIn]
  | y :: t, j => by have := intIn_len o t (j + 1); unfold intIn; split <;> simp <;> omega
theorem intAll_len : ∀ (t : List S50), (intAll t).length ≤ total t
  | [] => by simp [intAll]
  | x :: t => by have h1 := intIn_len x x.f4 0; have h2 := intAll_len t; rw [total_cons]; simp [intAll]; omega
theorem rd61 (pre t : List S61) (y : S61) : rd_T61 (pre ++ y :: t) (pre.length : Int) = y := by simp [rd_T61, List.getD_eq_getElem?_getD]
theorem rd50 (pre t : List S50) (y : S50) : rd_T50 (pre ++ y :: t) (pre.length : Int) = y := by simp [rd_T50, List.getD_eq_getElem?_getD]

theorem ref_ok (a b c d : Int) (pre t : List S61) (y : S61) : observe_ref.f a b c d (pre ++ y :: t) (pre.length : Int) = some (y.f2, y.f0 == 3) := by
  unfold observe_ref.f observe_value.f
  rw [if_neg (by omega), if_neg (by simp; omega), if_pos (by omega), if_pos (by simp; omega), rd61]
  simp

theorem in1 (o : S50) (x10 : List S50) (x11 x12 : Int) : ∀ (t pre : List S61) (acc : List S53) (k : Nat), (pre ++ t).length < 4611686018427387904 → acc.length + t.length < 1099511627776 →
    observe_Points.l1 (t.length + 1 + k) acc x10 x11 x12 ((pre ++ t).length : Int) (pre.length : Int) o.f0 o.f1 o.f2 o.f3 (pre ++ t) = observe_Points.l0 k (acc ++ ptsIn o (pre.length : Int) t) x10 x11 (wrap64 (x12 + 1)) := by
  intro t
  induction t with
  | nil =>
    intro pre acc k h1 h2
    rw [show ([] : List S61).length + 1 + k = k + 1 by simp; omega, observe_Points.l1, if_neg (by simp)]
    simp [ptsIn]
  | cons y t ih =>
    intro pre acc k h1 h2
    have hl : ((pre ++ y :: t).length : Int) = pre.length + (t.length + 1) := by simp
    have h1' : pre.length + (t.length + 1) < 4611686018427387904 := by simpa using h1
    have h2' : acc.length + (t.length + 1) < 1099511627776 := by simpa using h2
    rw [show (y :: t).length + 1 + k = (t.length + 1 + k) + 1 by simp; omega, observe_Points.l1, if_pos (by omega), ref_ok]
    simp only [Option.bind_some]
    have e1 : pre ++ y :: t = (pre ++ [y]) ++ t := by simp
    have e2 : (pre.length : Int) + 1 = ((pre ++ [y]).length : Int) := by simp
    rw [w64 (by omega) (by omega), e1, e2]
    by_cases h6 : y.f0 = 3
    · rw [if_pos (by simp [h6]), if_pos (by omega), ih (pre ++ [y]) _ k (by rw [← e1]; exact h1) (by simp; omega)]
      simp [ptsIn, h6]
    · rw [if_neg (by simp [h6]), ih (pre ++ [y]) _ k (by rw [← e1]; exact h1) (by omega)]
      simp [ptsIn, h6]

theorem out1 : ∀ (t pre : List S50) (acc : List S53) (k : Nat), (pre ++ t).length < 4611686018427387904 → acc.length + total t < 1099511627776 → total t < 4611686018427387904 →
    observe_Points.l0 (fuelOf t + k) acc (pre ++ t) ((pre ++ t).length : Int) (pre.length : Int) = api_PointFact_18.f (acc ++ ptsAll t) := by
  intro t
  induction t with
  | nil =>
    intro pre acc k h1 h2 h3
    rw [show fuelOf [] + k = k + 1 by simp [fuelOf]; omega, observe_Points.l0, if_neg (by simp)]
    simp [ptsAll]
  | cons x t ih =>
    intro pre acc k h1 h2 h3
    have hl : ((pre ++ x :: t).length : Int) = pre.length + (t.length + 1) := by simp
    have h1' : pre.length + (t.length + 1) < 4611686018427387904 := by simpa using h1
    rw [total_cons] at h2 h3
    rw [show fuelOf (x :: t) + k = (x.f4.length + 1 + (fuelOf t + k)) + 1 by simp [fuelOf]; omega, observe_Points.l0, if_pos (by omega), if_pos (by omega), if_pos (by omega), rd50]
    have hin := in1 x (pre ++ x :: t) ((pre ++ x :: t).length : Int) (pre.length : Int) x.f4 [] acc (fuelOf t + k) (by simp; omega) (by omega)
    simp only [List.nil_append, List.length_nil] at hin
    rw [show (0 : Int) = ((0 : Nat) : Int) from rfl, hin, w64 (by omega) (by omega)]
    have e1 : pre ++ x :: t = (pre ++ [x]) ++ t := by simp
    have e2 : (pre.length : Int) + 1 = ((pre ++ [x]).length : Int) := by simp
    have hn := ptsIn_len x x.f4 ((0 : Nat) : Int)
    rw [e1, e2, ih (pre ++ [x]) _ k (by rw [← e1]; exact h1) (by rw [List.length_append]; omega) (by omega)]
    simp [ptsAll]

theorem in3 (o : S50) (x9 : List S50) (x10 x11 : Int) : ∀ (t pre : List S61) (acc : List S32) (k : Nat), (pre ++ t).length < 4611686018427387904 → acc.length + t.length < 1099511627776 →
    observe_Ints.l1 (t.length + 1 + k) acc x9 x10 x11 (pre ++ t) ((pre ++ t).length : Int) (pre.length : Int) o.f0 o.f1 o.f2 o.f3 o.f4 = observe_Ints.l0 k (acc ++ intIn o (pre.length : Int) t) x9 x10 (wrap64 (x11 + 1)) := by
  intro t
  induction t with
  | nil =>
    intro pre acc k h1 h2
    rw [show ([] : List S61).length + 1 + k = k + 1 by simp; omega, observe_Ints.l1, if_neg (by simp)]
    simp [intIn]
  | cons y t ih =>
    intro pre acc k h1 h2
    have hl : ((pre ++ y :: t).length : Int) = pre.length + (t.length + 1) := by simp
    have h1' : pre.length + (t.length + 1) < 4611686018427387904 := by simpa using h1
    have h2' : acc.length + (t.length + 1) < 1099511627776 := by simpa using h2
    rw [show (y :: t).length + 1 + k = (t.length + 1 + k) + 1 by simp; omega, observe_Ints.l1, if_pos (by omega), if_pos (by omega), if_pos (by omega), rd61]
    have e1 : pre ++ y :: t = (pre ++ [y]) ++ t := by simp
    have e2 : (pre.length : Int) + 1 = ((pre ++ [y]).length : Int) := by simp
    rw [w64 (by omega) (by omega), e1, e2]
    by_cases h6 : y.f0 = 1
    · rw [if_pos h6, if_pos (by omega), ih (pre ++ [y]) _ k (by rw [← e1]; exact h1) (by simp; omega)]
      simp [intIn, h6]
    · rw [if_neg h6, ih (pre ++ [y]) _ k (by rw [← e1]; exact h1) (by omega)]
      simp [intIn, h6]

theorem out3 : ∀ (t pre : List S50) (acc : List S32) (k : Nat), (pre ++ t).length < 4611686018427387904 → acc.length + total t < 1099511627776 → total t < 4611686018427387904 →
    observe_Ints.l0 (fuelOf t + k) acc (pre ++ t) ((pre ++ t).length : Int) (pre.length : Int) = api_IntFact_23.f (acc ++ intAll t) := by
  intro t
  induction t with
  | nil =>
    intro pre acc k h1 h2 h3
    rw [show fuelOf [] + k = k + 1 by simp [fuelOf]; omega, observe_Ints.l0, if_neg (by simp)]
    simp [intAll]
  | cons x t ih =>
    intro pre acc k h1 h2 h3
    have hl : ((pre ++ x :: t).length : Int) = pre.length + (t.length + 1) := by simp
    have h1' : pre.length + (t.length + 1) < 4611686018427387904 := by simpa using h1
    rw [total_cons] at h2 h3
    rw [show fuelOf (x :: t) + k = (x.f4.length + 1 + (fuelOf t + k)) + 1 by simp [fuelOf]; omega, observe_Ints.l0, if_pos (by omega), if_pos (by omega), if_pos (by omega), rd50]
    have hin := in3 x (pre ++ x :: t) ((pre ++ x :: t).length : Int) (pre.length : Int) x.f4 [] acc (fuelOf t + k) (by simp; omega) (by omega)
    simp only [List.nil_append, List.length_nil] at hin
    rw [show (0 : Int) = ((0 : Nat) : Int) from rfl, hin, w64 (by omega) (by omega)]
    have e1 : pre ++ x :: t = (pre ++ [x]) ++ t := by simp
    have e2 : (pre.length : Int) + 1 = ((pre ++ [x]).length : Int) := by simp
    have hn := intIn_len x x.f4 ((0 : Nat) : Int)
    rw [e1, e2, ih (pre ++ [x]) _ k (by rw [← e1]; exact h1) (by rw [List.length_append]; omega) (by omega)]
    simp [intAll]

theorem sto53 : Sto (ltOf cf53) := ⟨swo53.irrefl, fun x y z => swo53.trans x y z, total53⟩
theorem sto32 : Sto (ltOf cf32) := ⟨swo32.irrefl, fun x y z => swo32.trans x y z, total32⟩

section
variable {α : Type} [Inhabited α] [DecidableEq α] {lt : α → α → Bool}
def putAll (lt : α → α → Bool) (acc : List α) (l : List α) : List α := l.foldl (fun a x => put lt x a) acc
theorem putAll_app (acc l m : List α) : putAll lt acc (l ++ m) = putAll lt (putAll lt acc l) m := List.foldl_append
theorem putAll_cons (acc : List α) (x : α) (l : List α) : putAll lt acc (x :: l) = putAll lt (put lt x acc) l := rfl
theorem putAll_len : ∀ (l acc : List α), (putAll lt acc l).length ≤ acc.length + l.length
  | [], acc => by simp [putAll]
  | x :: t, acc => by
    rw [putAll_cons]
    have h1 := putAll_len t (put lt x acc)
    have h2 := put_len (lt := lt) x acc
    simp only [List.length_cons]
    omega
theorem putAll_asc (h : Sto lt) : ∀ (l acc : List α), Asc lt acc → Asc lt (putAll lt acc l)
  | [], acc, ha => ha
  | x :: t, acc, ha => by rw [putAll_cons]; exact putAll_asc h t _ (asc_put h x ha)
theorem mem_putAll : ∀ (l acc : List α) (z : α), z ∈ putAll lt acc l ↔ z ∈ acc ∨ z ∈ l
  | [], acc, z => by simp [putAll]
  | x :: t, acc, z => by
    rw [putAll_cons, mem_putAll t, mem_put, List.mem_cons]
    constructor
    · rintro ((h | h) | h) <;> simp [h]
    · rintro (h | h | h) <;> simp [h]
/-- The sorted row without doubles is the row that ordered puts make. -/
theorem compact_putAll (h : Sto lt) (l s : List α) (hp : s.Perm l) (hs : s.Pairwise (fun x y => lt y x = false)) : compact s = putAll lt [] l := by
  obtain ⟨h1, h2⟩ := compact_asc h s hs
  refine asc_ext h h1 (putAll_asc h l [] List.Pairwise.nil) fun x => ?_
  rw [h2, mem_putAll, hp.mem_iff]
  simp
theorem putAll_one (l : List α) (hl : l.length ≤ 1) : putAll lt [] l = l := by
  match l, hl with
  | [], _ => rfl
  | [x], _ => rfl
  | x :: y :: t, h => simp at h
end

theorem sort_pair {α : Type} {cf : α → α → Int} (hO : SWO (ltOf cf)) (l : List α) : (l.mergeSort fun x y => !(ltOf cf) y x).Pairwise (fun x y => ltOf cf y x = false) := by
  have hp : (l.mergeSort fun x y => !(ltOf cf) y x).Pairwise (fun x y => (!(ltOf cf) y x) = true) := by
    refine List.pairwise_mergeSort ?_ ?_ l
    · intro a b c h1 h2
      simp only [Bool.not_eq_true'] at *
      exact hO.ntrans c b a h2 h1
    · intro a b
      simp only [Bool.or_eq_true, Bool.not_eq_true']
      by_cases c : ltOf cf b a = true
      · right
        cases e : ltOf cf a b
        · rfl
        · have := hO.trans _ _ _ c e
          rw [hO.irrefl] at this
          cases this
      · left; exact Bool.eq_false_iff.2 c
  exact hp.imp fun h => by simpa using h

theorem sorted53 (l : List S53) (hl : l.length ≤ 4398046511104) : api_PointFact_18.f l = some (putAll (ltOf cf53) [] l) := by
  unfold api_PointFact_18.f
  by_cases c : l.length ≤ 1
  · rw [if_pos c, putAll_one l c]
  · rw [if_neg c, if_pos hl, compact_putAll sto53 l (sort53 l) (List.mergeSort_perm l _) (sort_pair swo53 l)]
theorem sorted32 (l : List S32) (hl : l.length ≤ 4398046511104) : api_IntFact_23.f l = some (putAll (ltOf cf32) [] l) := by
  unfold api_IntFact_23.f
  by_cases c : l.length ≤ 1
  · rw [if_pos c, putAll_one l c]
  · rw [if_neg c, if_pos hl, compact_putAll sto32 l (sort32 l) (List.mergeSort_perm l _) (sort_pair swo32 l)]

theorem in2 (a : Int) (p s : List S50) (o : S50) : ∀ (t pre : List S61) (acc : List S53) (k : Nat), (pre ++ t).length < 4611686018427387904 → acc.length + t.length < 1099511627776 →
    dataflowref16_Points.l1 (t.length + 1 + k) acc (p.length : Int) (pre.length : Int) a (p ++ o :: s) o.f0 o.f1 o.f2 o.f3 (pre ++ t) = dataflowref16_Points.l0 k (putAll (ltOf cf53) acc (ptsIn o (pre.length : Int) t)) (wrap64 ((p.length : Int) + 1)) a (p ++ o :: s) := by
  intro t
  induction t with
  | nil =>
    intro pre acc k h1 h2
    rw [show ([] : List S61).length + 1 + k = k + 1 by simp; omega, dataflowref16_Points.l1, if_neg (by simp)]
    simp [ptsIn, putAll]
  | cons y t ih =>
    intro pre acc k h1 h2
    have hl : ((pre ++ y :: t).length : Int) = pre.length + (t.length + 1) := by simp
    have h1' : pre.length + (t.length + 1) < 4611686018427387904 := by simpa using h1
    have h2' : acc.length + (t.length + 1) < 1099511627776 := by simpa using h2
    rw [show (y :: t).length + 1 + k = (t.length + 1 + k) + 1 by simp; omega, dataflowref16_Points.l1, if_pos (by omega), if_pos (by omega), rd61]
    have e1 : pre ++ y :: t = (pre ++ [y]) ++ t := by simp
    have e2 : (pre.length : Int) + 1 = ((pre ++ [y]).length : Int) := by simp
    rw [w64 (by omega) (by omega)]
    by_cases h6 : y.f0 = 3
    · rw [if_pos h6]
      have hp : dataflowref16_putPoint.f acc o.f0 (pre.length : Int) y.f2 = some (put (ltOf cf53) ⟨o.f0, (pre.length : Int), y.f2⟩ acc) := by
        unfold dataflowref16_putPoint.f
        rw [if_pos (by omega)]
      rw [hp]
      simp only [Option.bind_some]
      have hpl := put_len (lt := ltOf cf53) ⟨o.f0, (pre.length : Int), y.f2⟩ acc
      rw [e1, e2, ih (pre ++ [y]) _ k (by rw [← e1]; exact h1) (by omega)]
      simp [ptsIn, h6, putAll]
    · rw [if_neg h6, e1, e2, ih (pre ++ [y]) _ k (by rw [← e1]; exact h1) (by omega)]
      simp [ptsIn, h6]

theorem out2 (a : Int) : ∀ (t pre : List S50) (acc : List S53) (k : Nat), (pre ++ t).length < 4611686018427387904 → acc.length + total t < 1099511627776 → total t < 4611686018427387904 →
    dataflowref16_Points.l0 (fuelOf t + k) acc (pre.length : Int) a (pre ++ t) = some (putAll (ltOf cf53) acc (ptsAll t)) := by
  intro t
  induction t with
  | nil =>
    intro pre acc k h1 h2 h3
    rw [show fuelOf [] + k = k + 1 by simp [fuelOf]; omega, dataflowref16_Points.l0, if_neg (by simp)]
    simp [ptsAll, putAll]
  | cons x t ih =>
    intro pre acc k h1 h2 h3
    have hl : ((pre ++ x :: t).length : Int) = pre.length + (t.length + 1) := by simp
    have h1' : pre.length + (t.length + 1) < 4611686018427387904 := by simpa using h1
    rw [total_cons] at h2 h3
    rw [show fuelOf (x :: t) + k = (x.f4.length + 1 + (fuelOf t + k)) + 1 by simp [fuelOf]; omega, dataflowref16_Points.l0, if_pos (by omega), if_pos (by omega), rd50]
    have hin := in2 a pre t x x.f4 [] acc (fuelOf t + k) (by simp; omega) (by omega)
    simp only [List.nil_append, List.length_nil] at hin
    rw [show (0 : Int) = ((0 : Nat) : Int) from rfl, hin, w64 (by omega) (by omega)]
    have e1 : pre ++ x :: t = (pre ++ [x]) ++ t := by simp
    have e2 : (pre.length : Int) + 1 = ((pre ++ [x]).length : Int) := by simp
    have hn := ptsIn_len x x.f4 ((0 : Nat) : Int)
    have hq := putAll_len (lt := ltOf cf53) (ptsIn x ((0 : Nat) : Int) x.f4) acc
    rw [e1, e2, ih (pre ++ [x]) _ k (by rw [← e1]; exact h1) (by omega) (by omega)]
    simp [ptsAll, putAll_app]

theorem in4 (a : Int) (p s : List S50) (o : S50) : ∀ (t pre : List S61) (acc : List S32) (k : Nat), (pre ++ t).length < 4611686018427387904 → acc.length + t.length < 1099511627776 → Asc (ltOf cf32) acc →
    dataflowref16_Ints.l1 (t.length + 1 + k) acc (p.length : Int) (pre.length : Int) a (p ++ o :: s) o.f0 o.f1 o.f2 o.f3 (pre ++ t) = dataflowref16_Ints.l0 k (putAll (ltOf cf32) acc (intIn o (pre.length : Int) t)) (wrap64 ((p.length : Int) + 1)) a (p ++ o :: s) := by
  intro t
  induction t with
  | nil =>
    intro pre acc k h1 h2 ha
    rw [show ([] : List S61).length + 1 + k = k + 1 by simp; omega, dataflowref16_Ints.l1, if_neg (by simp)]
    simp [intIn, putAll]
  | cons y t ih =>
    intro pre acc k h1 h2 ha
    have hl : ((pre ++ y :: t).length : Int) = pre.length + (t.length + 1) := by simp
    have h1' : pre.length + (t.length + 1) < 4611686018427387904 := by simpa using h1
    have h2' : acc.length + (t.length + 1) < 1099511627776 := by simpa using h2
    rw [show (y :: t).length + 1 + k = (t.length + 1 + k) + 1 by simp; omega, dataflowref16_Ints.l1, if_pos (by omega), if_pos (by omega), rd61]
    have e1 : pre ++ y :: t = (pre ++ [y]) ++ t := by simp
    have e2 : (pre.length : Int) + 1 = ((pre ++ [y]).length : Int) := by simp
    rw [w64 (by omega) (by omega)]
    by_cases h6 : y.f0 = 1
    · rw [if_pos h6]
      have hp : dataflowref16_putInt.f acc o.f0 o.f1 (pre.length : Int) y.f1 = some (put (ltOf cf32) ⟨o.f0, o.f1, (pre.length : Int), y.f1⟩ acc) := by
        unfold dataflowref16_putInt.f
        rw [if_pos ⟨by omega, ha⟩]
      rw [hp]
      simp only [Option.bind_some]
      have hpl := put_len (lt := ltOf cf32) ⟨o.f0, o.f1, (pre.length : Int), y.f1⟩ acc
      rw [e1, e2, ih (pre ++ [y]) _ k (by rw [← e1]; exact h1) (by omega) (asc_put sto32 _ ha)]
      simp [intIn, h6, putAll]
    · rw [if_neg h6, e1, e2, ih (pre ++ [y]) _ k (by rw [← e1]; exact h1) (by omega) ha]
      simp [intIn, h6]

theorem out4 (a : Int) : ∀ (t pre : List S50) (acc : List S32) (k : Nat), (pre ++ t).length < 4611686018427387904 → acc.length + total t < 1099511627776 → total t < 4611686018427387904 → Asc (ltOf cf32) acc →
    dataflowref16_Ints.l0 (fuelOf t + k) acc (pre.length : Int) a (pre ++ t) = some (putAll (ltOf cf32) acc (intAll t)) := by
  intro t
  induction t with
  | nil =>
    intro pre acc k h1 h2 h3 ha
    rw [show fuelOf [] + k = k + 1 by simp [fuelOf]; omega, dataflowref16_Ints.l0, if_neg (by simp)]
    simp [intAll, putAll]
  | cons x t ih =>
    intro pre acc k h1 h2 h3 ha
    have hl : ((pre ++ x :: t).length : Int) = pre.length + (t.length + 1) := by simp
    have h1' : pre.length + (t.length + 1) < 4611686018427387904 := by simpa using h1
    rw [total_cons] at h2 h3
    rw [show fuelOf (x :: t) + k = (x.f4.length + 1 + (fuelOf t + k)) + 1 by simp [fuelOf]; omega, dataflowref16_Ints.l0, if_pos (by omega), if_pos (by omega), rd50]
    have hin := in4 a pre t x x.f4 [] acc (fuelOf t + k) (by simp; omega) (by omega) ha
    simp only [List.nil_append, List.length_nil] at hin
    rw [show (0 : Int) = ((0 : Nat) : Int) from rfl, hin, w64 (by omega) (by omega)]
    have e1 : pre ++ x :: t = (pre ++ [x]) ++ t := by simp
    have e2 : (pre.length : Int) + 1 = ((pre ++ [x]).length : Int) := by simp
    have hn := intIn_len x x.f4 ((0 : Nat) : Int)
    have hq := putAll_len (lt := ltOf cf32) (intIn x ((0 : Nat) : Int) x.f4) acc
    rw [e1, e2, ih (pre ++ [x]) _ k (by rw [← e1]; exact h1) (by omega) (by omega) (putAll_asc sto32 _ _ ha)]
    simp [intAll, putAll_app]

theorem same_ok (x : List S53) : ∀ (m i k : Nat), i + m = x.length → m + 2 ≤ k → x.length < 4611686018427387904 → dataflowlaw16_samePoints.l0 k x x (i : Int) = some true := by
  intro m
  induction m with
  | zero =>
    intro i k h hk hl
    obtain ⟨k, rfl⟩ : ∃ k', k = k' + 1 := ⟨k - 1, by omega⟩
    rw [dataflowlaw16_samePoints.l0, if_neg (by omega)]
  | succ m ih =>
    intro i k h hk hl
    obtain ⟨k, rfl⟩ : ∃ k', k = k' + 1 := ⟨k - 1, by omega⟩
    rw [dataflowlaw16_samePoints.l0, if_pos (by omega), if_pos (by omega), if_pos (by omega), if_neg (by simp), w64 (by omega) (by omega)]
    exact ih (i + 1) k (by omega) (by omega) hl

theorem ints_ok (x : List S32) : ∀ (m i k : Nat), i + m = x.length → m + 14 ≤ k → x.length < 4611686018427387904 → dataflowlaw16_ObservePoints.l0 k x x (i : Int) = some true := by
  intro m
  induction m with
  | zero =>
    intro i k h hk hl
    obtain ⟨k, rfl⟩ : ∃ k', k = k' + 1 := ⟨k - 1, by omega⟩
    rw [dataflowlaw16_ObservePoints.l0, if_neg (by omega), awake_ok k (by omega)]
    rfl
  | succ m ih =>
    intro i k h hk hl
    obtain ⟨k, rfl⟩ : ∃ k', k = k' + 1 := ⟨k - 1, by omega⟩
    rw [dataflowlaw16_ObservePoints.l0, if_pos (by omega), if_pos (by omega), if_pos (by omega), if_neg (by simp), w64 (by omega) (by omega)]
    exact ih (i + 1) k (by omega) (by omega) hl

theorem pure_ObservePoints (a : Int) (l : List S50) (h : total l ≤ 1048576 ∧ l.length ≤ 1048576) : ∃ k, dataflowlaw16_ObservePoints.f k a l = some true := by
  refine ⟨fuelOf l + (total l + 60), ?_⟩
  by_cases c : (l.length : Int) > 300
  · unfold dataflowlaw16_ObservePoints.f
    rw [if_pos c]
    obtain ⟨k, hk⟩ : ∃ k, fuelOf l + (total l + 60) = k + 1 := ⟨fuelOf l + (total l + 59), by omega⟩
    rw [hk, dataflowlaw16_ObservePoints.j0, if_pos rfl, if_pos c, awake_ok k (by omega)]
    rfl
  · have h1 := ptsAll_len l
    have h2 := intAll_len l
    have p1 : observe_Points.f (fuelOf l + (total l + 60)) a l = some (putAll (ltOf cf53) [] (ptsAll l)) := by
      have := out1 l [] [] (total l + 60) (by simp; omega) (by simp; omega) (by omega)
      simp only [List.nil_append, List.length_nil] at this
      unfold observe_Points.f
      rw [show (0 : Int) = ((0 : Nat) : Int) from rfl, this, sorted53 _ (by omega)]
    have p2 : dataflowref16_Points.f (fuelOf l + (total l + 60)) a l = some (putAll (ltOf cf53) [] (ptsAll l)) := by
      have := out2 a l [] [] (total l + 60) (by simp; omega) (by simp; omega) (by omega)
      simp only [List.nil_append, List.length_nil] at this
      unfold dataflowref16_Points.f
      rw [show (0 : Int) = ((0 : Nat) : Int) from rfl, this]
    have hq := putAll_len (lt := ltOf cf53) (ptsAll l) []
    simp only [List.length_nil] at hq
    generalize putAll (ltOf cf53) [] (ptsAll l) = q at p1 p2 hq
    have p3 : dataflowlaw16_samePoints.f (fuelOf l + (total l + 60)) q q = some true := by
      unfold dataflowlaw16_samePoints.f
      rw [if_pos rfl]
      exact same_ok q q.length 0 _ (by omega) (by omega) (by omega)
    unfold dataflowlaw16_ObservePoints.f
    rw [if_neg c, p1]
    simp only [Option.bind_some]
    rw [p2]
    simp only [Option.bind_some]
    rw [p3]
    simp only [Option.bind_some]
    obtain ⟨k, hk⟩ : ∃ k, fuelOf l + (total l + 60) = (fuelOf l + k) + 1 := ⟨total l + 59, by omega⟩
    have hk' : k = total l + 59 := by omega
    have p4 : observe_Ints.f (fuelOf l + k) a l = some (putAll (ltOf cf32) [] (intAll l)) := by
      have := out3 l [] [] k (by simp; omega) (by simp; omega) (by omega)
      simp only [List.nil_append, List.length_nil] at this
      unfold observe_Ints.f
      rw [show (0 : Int) = ((0 : Nat) : Int) from rfl, this, sorted32 _ (by omega)]
    have p5 : dataflowref16_Ints.f (fuelOf l + k) a l = some (putAll (ltOf cf32) [] (intAll l)) := by
      have := out4 a l [] [] k (by simp; omega) (by simp; omega) (by omega) List.Pairwise.nil
      simp only [List.nil_append, List.length_nil] at this
      unfold dataflowref16_Ints.f
      rw [show (0 : Int) = ((0 : Nat) : Int) from rfl, this]
    have hq2 := putAll_len (lt := ltOf cf32) (intAll l) []
    simp only [List.length_nil] at hq2
    generalize putAll (ltOf cf32) [] (intAll l) = q2 at p4 p5 hq2
    rw [hk, dataflowlaw16_ObservePoints.j0, if_neg (by simp), p4]
    simp only [Option.bind_some]
    rw [p5]
    simp only [Option.bind_some]
    rw [if_pos trivial]
    exact ints_ok q2 q2.length 0 _ (by omega) (by omega) (by omega)
#print axioms pure_ObservePoints
end Go.Proofs.Ytehfommdgoffmaa.QObs
