/- VpathMatch's law over the printed functions: the path that the program follows. -/
import Derived.Test.YtflpelbhalndcaaQVSup3
import Derived.Test.YtflpelbhalndcaaQVx10
namespace Go.Proofs.Ytflpelbhalndcaa.QV
open Go.RowKit Go.Proofs.YtflpelbhalndcaaW.PrintWords Go.Proofs.YtflpelbhalndcaaW.PrintLast Go.Proofs.YtflpelbhalndcaaW.PrintMore
open Go.Proofs.Ytflpelbhalndcaa.Cmp
set_option linter.unusedVariables false
set_option linter.unusedSimpArgs false

theorem awake_ok : ∀ k, 60 ≤ k → dataflowlaw28_awake.f k = some true := by
  intro k hk
  induction hk with
  | refl => kernel_rfl
  | step _ ih => exact dataflowlaw28_awake.mono _ _ ih

/-- Where a path leads: node, pending calls, error. -/
def folL (E : List S32) : List Int → Int → List Int → Int × List Int × Int
  | [], node, calls => (node, calls, 0)
  | p :: t, node, calls =>
    if p < 0 ∨ p ≥ E.length then (0, [], 4)
    else if (rd_T32 E p).f0 = node then
      (if (rd_T32 E p).f2 = 3 ∨ (rd_T32 E p).f2 = 4 then
        (if 0 < calls.length ∧ calls.getD (calls.length - 1) 0 = (rd_T32 E p).f3 then folL E t (rd_T32 E p).f1 (calls.take (calls.length - 1)) else (0, [], 20))
      else if (rd_T32 E p).f2 = 2 then folL E t (rd_T32 E p).f1 (calls ++ [(rd_T32 E p).f0]) else folL E t (rd_T32 E p).f1 calls)
    else (0, [], 16)

theorem allows_f (node : Int) (calls : List Int) (d : S32) (hc : calls.length < 4611686018427387904) :
    vpath_place_allows.f node calls d.f0 d.f1 d.f2 d.f3 = some (if d.f2 = 3 ∨ d.f2 = 4 then decide (0 < calls.length) && (calls.getD (calls.length - 1) 0 == d.f3) else true) := by
  unfold vpath_place_allows.f
  have hr : vpath_returns.f d.f0 d.f1 d.f2 d.f3 = some (decide (d.f2 = 3 ∨ d.f2 = 4)) := by
    unfold vpath_returns.f
    by_cases h3 : d.f2 = 3
    · rw [if_pos h3]; simp [h3]
    · rw [if_neg h3]; by_cases h4 : d.f2 = 4 <;> simp [h3, h4]
  rw [hr]
  simp only [Option.bind_some]
  by_cases c : d.f2 = 3 ∨ d.f2 = 4
  · rw [if_pos (decide_eq_true c), if_pos c]
    by_cases h0 : (calls.length : Int) > 0
    · have e1 : wrap64 ((calls.length : Int) - 1) = ((calls.length - 1 : Nat) : Int) := by rw [w64 (by omega) (by omega)]; omega
      rw [if_pos h0, e1, if_pos (by omega), if_pos (by omega), rd_nat]
      have : 0 < calls.length := by omega
      simp [this]
    · rw [if_neg h0]
      have : ¬ 0 < calls.length := by omega
      simp [this]
  · rw [if_neg (by simpa using c), if_neg c]

theorem fol_loop (N : List S35) (E : List S32) (m : Int) (path : List Int) (hp : path.length ≤ 4096) : ∀ (t i : Nat) (node : Int) (calls : List Int) (k : Nat), i + t = path.length → calls.length + t < 1000000 → 2 * t + 2 ≤ k →
    vpath_follow.l0 k path (path.length : Int) (i : Int) N E m node calls = some (folL E (path.drop i) node calls) := by
  intro t
  induction t with
  | zero =>
    intro i node calls k h hc hk
    obtain ⟨k, rfl⟩ : ∃ k', k = k' + 1 := ⟨k - 1, by omega⟩
    rw [vpath_follow.l0, if_neg (by omega), List.drop_eq_nil_of_le (by omega)]
    rfl
  | succ t ih =>
    intro i node calls k h hc hk
    obtain ⟨k, rfl⟩ : ∃ k', k = k' + 2 := ⟨k - 2, by omega⟩
    have hd : path.drop i = rd path (i : Int) :: path.drop (i + 1) := by
      rw [List.drop_eq_getElem_cons (by omega), rd_nat, List.getD_eq_getElem?_getD, List.getElem?_eq_getElem (by omega)]
      rfl
    have hw : wrap64 ((i : Int) + 1) = ((i + 1 : Nat) : Int) := by rw [w64 (by omega) (by omega)]; push_cast; rfl
    rw [vpath_follow.l0, if_pos (by omega), if_pos (by omega), if_pos (by omega), hd, folL]
    generalize rd path (i : Int) = p
    have hj : ∀ b : Bool, (b = true ↔ p < 0 ∨ p ≥ (E.length : Int)) → vpath_follow.j1 (k + 1) p path (path.length : Int) (i : Int) b N E m node calls = some (if p < 0 ∨ p ≥ E.length then (0, [], 4)
        else if (rd_T32 E p).f0 = node then
      (if (rd_T32 E p).f2 = 3 ∨ (rd_T32 E p).f2 = 4 then
        (if 0 < calls.length ∧ calls.getD (calls.length - 1) 0 = (rd_T32 E p).f3 then folL E (path.drop (i + 1)) (rd_T32 E p).f1 (calls.take (calls.length - 1)) else (0, [], 20))
      else if (rd_T32 E p).f2 = 2 then folL E (path.drop (i + 1)) (rd_T32 E p).f1 (calls ++ [(rd_T32 E p).f0]) else folL E (path.drop (i + 1)) (rd_T32 E p).f1 calls)
    else (0, [], 16)) := by
      intro b hb
      rw [vpath_follow.j1]
      by_cases c : p < 0 ∨ p ≥ (E.length : Int)
      · rw [if_pos (hb.2 c), if_pos c]
      · rw [if_neg (fun h => c (hb.1 h)), if_neg c, if_pos (by omega), if_pos (by omega)]
        generalize rd_T32 E p = d
        by_cases c1 : d.f0 = node
        · rw [if_pos c1, if_pos c1, allows_f _ _ _ (by omega)]
          simp only [Option.bind_some]
          unfold vpath_place_step.f
          by_cases c2 : d.f2 = 3 ∨ d.f2 = 4
          · simp only [if_pos c2, if_neg (show ¬ d.f2 = 2 by omega)]
            by_cases c3 : 0 < calls.length ∧ calls.getD (calls.length - 1) 0 = d.f3
            · rw [if_pos (show (decide (0 < calls.length) && (calls.getD (calls.length - 1) 0 == d.f3)) = true by rw [c3.2, decide_eq_true c3.1]; simp), if_pos c3, if_pos c3.1]
              simp only [Option.bind_some]
              rw [hw, ih (i + 1) _ _ k (by omega) (by rw [List.length_take]; omega) (by omega)]
            · rw [if_neg (show ¬ (decide (0 < calls.length) && (calls.getD (calls.length - 1) 0 == d.f3)) = true by intro h; simp only [Bool.and_eq_true, decide_eq_true_eq, beq_iff_eq] at h; exact c3 h), if_neg c3]
          · simp only [if_neg c2, if_true]
            by_cases c4 : d.f2 = 2
            · rw [if_pos c4, if_pos c4, if_pos (show calls.length < 1000000 by omega)]
              simp only [Option.bind_some]
              rw [hw, ih (i + 1) _ _ k (by omega) (by simp; omega) (by omega)]
            · rw [if_neg c4, if_neg c4]
              simp only [Option.bind_some]
              rw [hw, ih (i + 1) _ _ k (by omega) (by omega) (by omega)]
        · rw [if_neg c1, if_neg c1]
    by_cases c : p < 0
    · rw [if_pos c, hj true (by simp [c])]
    · rw [if_neg c, hj (decide (p ≥ (E.length : Int))) (by simp [c])]

theorem folL_append (E : List S32) : ∀ (a b : List Int) (node : Int) (calls : List Int), (folL E (a ++ b) node calls).2.2 = 0 →
    (folL E a node calls).2.2 = 0 ∧ folL E (a ++ b) node calls = folL E b (folL E a node calls).1 (folL E a node calls).2.1
  | [], b, node, calls, h => ⟨rfl, rfl⟩
  | p :: a, b, node, calls, h => by
    obtain ⟨r, hr⟩ : ∃ r, folL E (p :: a) node calls = r := ⟨_, rfl⟩
    rw [hr]
    rw [List.cons_append, folL] at h
    rw [List.cons_append, folL]
    rw [folL] at hr
    split at h
    · simp at h
    · rename_i c
      rw [if_neg c] at hr ⊢
      split at h
      · rename_i c1
        rw [if_pos c1] at hr ⊢
        split at h
        · rename_i c2
          rw [if_pos c2] at hr ⊢
          split at h
          · rename_i c3
            rw [if_pos c3] at hr ⊢
            subst hr
            exact folL_append E a b _ _ h
          · simp at h
        · rename_i c2
          rw [if_neg c2] at hr ⊢
          split at h
          · rename_i c3
            rw [if_pos c3] at hr ⊢
            subst hr
            exact folL_append E a b _ _ h
          · rename_i c3
            rw [if_neg c3] at hr ⊢
            subst hr
            exact folL_append E a b _ _ h
      · simp at h

theorem folL_len (E : List S32) : ∀ (a : List Int) (node : Int) (calls : List Int), (folL E a node calls).2.1.length ≤ calls.length + a.length
  | [], node, calls => by simp [folL]
  | p :: a, node, calls => by
    rw [folL]
    split
    · simp
    · split
      · split
        · split
          · have := folL_len E a (rd_T32 E p).f1 (calls.take (calls.length - 1))
            rw [List.length_take] at this
            simp only [List.length_cons]
            omega
          · simp
        · split
          · have := folL_len E a (rd_T32 E p).f1 (calls ++ [(rd_T32 E p).f0])
            simp only [List.length_cons, List.length_append, List.length_nil] at this ⊢
            omega
          · have := folL_len E a (rd_T32 E p).f1 calls
            simp only [List.length_cons]
            omega
      · simp
end Go.Proofs.Ytflpelbhalndcaa.QV
