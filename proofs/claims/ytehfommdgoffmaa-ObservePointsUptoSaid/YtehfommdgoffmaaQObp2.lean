/- dataflowref16.putInt in the print's form: the ordered put into an ascending row of fewer than 2^40 facts. -/
import Derived.Test.YtehfommdgoffmaaQObpui
import Derived.Test.YtehfommdgoffmaaQObp1
namespace Go.Proofs.Ytehfommdgoffmaa.QObs
open Go.RowKit Go.Lib Go.Sort Go.Proofs.Ytehfommdgoffmaa.Cmp Go.Proofs.YtehfommdgoffmaaW.PrintWords Go.Proofs.YtehfommdgoffmaaW.PrintLast Go.Proofs.YtehfommdgoffmaaW.PrintMore
open Go.Proofs.Ytehfommdgoffmaa.Asc (put put_at Asc)
open Go.Proofs.Ytehfommdgoffmaa.QObb (dataflowref16_lessInt.f dataflowref16_lessInt.j0)
set_option linter.unusedVariables false
set_option linter.unusedSimpArgs false

theorem less_ok (x y : S32) (k : Nat) (hk : 6 ≤ k) : dataflowref16_lessInt.f k x.f0 x.f1 x.f2 x.f3 y.f0 y.f1 y.f2 y.f3 = some (ltOf cf32 x y) := by
  obtain ⟨k, rfl⟩ : ∃ k', k = k' + 1 := ⟨k - 1, by omega⟩
  rw [lt32]
  unfold dataflowref16_lessInt.f
  have hb := before_ok x.f0 x.f1 x.f2 y.f0 y.f1 y.f2 k (by omega)
  have ht : dataflowref16_lessInt.j0 (k + 1) true x.f0 x.f1 x.f2 x.f3 y.f0 y.f1 y.f2 y.f3 = some (decide (x.f0 < y.f0 ∨ (x.f0 = y.f0 ∧ (x.f1 < y.f1 ∨ (x.f1 = y.f1 ∧ x.f2 < y.f2))))) := by
    rw [dataflowref16_lessInt.j0, if_pos rfl, hb]
    rfl
  have hf : dataflowref16_lessInt.j0 (k + 1) false x.f0 x.f1 x.f2 x.f3 y.f0 y.f1 y.f2 y.f3 = some (decide (x.f3 < y.f3)) := by
    rw [dataflowref16_lessInt.j0, if_neg (by simp)]
  by_cases h0 : x.f0 = y.f0
  · rw [if_pos h0]
    by_cases h1 : x.f1 = y.f1
    · rw [if_pos h1]
      by_cases h2 : x.f2 = y.f2
      · rw [show (x.f2 != y.f2) = false by simp [h2], hf]
        simp [h0, h1, h2]
      · rw [show (x.f2 != y.f2) = true by simp [h2], ht]
        simp [h0, h1, h2]
    · rw [if_neg h1, ht]
      simp [h0, h1]
  · rw [if_neg h0, ht]
    simp [h0]

theorem putI_loop (l : List S32) (x : S32) (hl : l.length < 1099511627776) (hs : Asc (ltOf cf32) l) : ∀ (m i j : Nat), j - i ≤ m → i ≤ j → j ≤ l.length → (∀ t, t < i → ltOf cf32 (l.getD t default) x = true) → (∀ t, j ≤ t → t < l.length → ltOf cf32 (l.getD t default) x = false) → ∀ k, m + 8 ≤ k →
    putI.l0 k l (i : Int) (j : Int) x.f0 x.f1 x.f2 x.f3 = some (put (ltOf cf32) x l) := by
  have hrd : ∀ i : Nat, rd_T32 l (i : Int) = l.getD i default := fun i => by simp [rd_T32]; rfl
  have hso : ∀ a b, a < b → b < l.length → ltOf cf32 (l.getD a default) (l.getD b default) = true := by
    intro a b hab hb
    rw [List.getD_eq_getElem?_getD, List.getD_eq_getElem?_getD, List.getElem?_eq_getElem (by omega : a < l.length), List.getElem?_eq_getElem hb]
    exact List.pairwise_iff_getElem.1 hs a b (by omega) hb hab
  intro m
  induction m with
  | zero =>
    intro i j h1 h2 h3 h4 h5 k hk
    have hij : i = j := by omega
    subst hij
    obtain ⟨k, rfl⟩ : ∃ k', k = k' + 1 := ⟨k - 1, by omega⟩
    rw [putI.l0, if_neg (by omega), if_pos ⟨by omega, by omega, hl⟩, put_at x l i h3 h4 (fun h => h5 i (Nat.le_refl _) h), hrd]
    congr 1
    by_cases c : i < l.length ∧ l.getD i default = x
    · rw [if_pos c, if_pos ⟨by omega, c.2⟩]
    · rw [if_neg c, if_neg (fun h => c ⟨by omega, h.2⟩)]
      rfl
  | succ m ih =>
    intro i j h1 h2 h3 h4 h5 k hk
    by_cases hij : i < j
    · obtain ⟨k, rfl⟩ : ∃ k', k = k' + 1 := ⟨k - 1, by omega⟩
      have hmid : wrap64 (Int.tdiv (wrap64 ((i : Int) + (j : Int))) 2) = (((i + j) / 2 : Nat) : Int) := by
        have e1 : wrap64 ((i : Int) + (j : Int)) = (i : Int) + (j : Int) := w64 (by omega) (by omega)
        have e2 : Int.tdiv ((i : Int) + (j : Int)) 2 = (((i + j) / 2 : Nat) : Int) := by
          rw [Int.tdiv_eq_ediv_of_nonneg (by omega)]
          omega
        rw [e1, e2]
        exact w64 (by omega) (by omega)
      rw [putI.l0, if_pos (by omega), hmid, if_pos (by omega), if_pos (by omega), hrd, less_ok _ x k (by omega)]
      simp only [Option.bind_some]
      by_cases c : ltOf cf32 (l.getD ((i + j) / 2) default) x = true
      · rw [if_pos c, w64 (by omega) (by omega), show (((i + j) / 2 : Nat) : Int) + 1 = (((i + j) / 2 + 1 : Nat) : Int) by push_cast; rfl]
        refine ih _ _ (by omega) (by omega) h3 (fun t ht => ?_) h5 k (by omega)
        by_cases e : t = (i + j) / 2
        · rw [e]; exact c
        · exact swo32.trans _ _ _ (hso t ((i + j) / 2) (by omega) (by omega)) c
      · rw [if_neg c]
        refine ih _ _ (by omega) (by omega) (by omega) h4 (fun t ht hl' => ?_) k (by omega)
        by_cases e : t = (i + j) / 2
        · rw [e]; exact Bool.eq_false_iff.2 c
        · refine Bool.eq_false_iff.2 fun h => c (swo32.trans _ _ _ (hso ((i + j) / 2) t (by omega) hl') h)
    · have hij : i = j := by omega
      subst hij
      obtain ⟨k, rfl⟩ : ∃ k', k = k' + 1 := ⟨k - 1, by omega⟩
      rw [putI.l0, if_neg (by omega), if_pos ⟨by omega, by omega, hl⟩, put_at x l i h3 h4 (fun h => h5 i (Nat.le_refl _) h), hrd]
      congr 1
      by_cases c : i < l.length ∧ l.getD i default = x
      · rw [if_pos c, if_pos ⟨by omega, c.2⟩]
      · rw [if_neg c, if_neg (fun h => c ⟨by omega, h.2⟩)]
        rfl

theorem putI_pure (l : List S32) (a b c d : Int) (hl : l.length < 1099511627776) (hs : Asc (ltOf cf32) l) : putI.f (l.length + 8) l a b c d = some (put (ltOf cf32) ⟨a, b, c, d⟩ l) := by
  have := putI_loop l ⟨a, b, c, d⟩ hl hs l.length 0 l.length (by omega) (by omega) (by omega) (fun t h => by omega) (fun t h h' => by omega) (l.length + 8) (by omega)
  exact this

def dataflowref16_putInt.f (l0 : List S32) (a1_0 a1_1 a1_2 a1_3 : Int) : Option (List S32) := if l0.length < 1099511627776 ∧ (l0.Pairwise fun x y => ltOf cf32 x y = true) then some (put (ltOf cf32) ⟨a1_0, a1_1, a1_2, a1_3⟩ l0) else none

theorem dataflowref16_putInt.calls (P0_ : Nat → Prop) (u9000_ : Value) (l0 : List S32) (a1_0 a1_1 a1_2 a1_3 : Int) (r : List S32) (w0 w : World) (hB : Below w0.heap.size w0 w) (ho0 : Kd.R k32 32 w w0.heap.size P0_ u9000_ l0) (h : dataflowref16_putInt.f l0 a1_0 a1_1 a1_2 a1_3 = some r) :
    Calls Try.prog 26 #[u9000_, .agg #[.int .i64 a1_0, .int .i64 a1_1, .int .i64 a1_2, .int .i64 a1_3]] w fun e w' => ∃ v0_, e = .returned v0_ ∧ Kd.R k32 32 w' w0.heap.size (fun k_ => (P0_ k_ ∨ w.heap.size ≤ k_)) v0_ r ∧ Below w0.heap.size w0 w' ∧ Kept w w' (fun k_ => P0_ k_) := by
  unfold dataflowref16_putInt.f at h
  split at h
  case isFalse => cases h
  case isTrue hl =>
    obtain ⟨A, c, e, hlc, hC⟩ := Kd.R_reads ho0
    subst e
    have own := own32_of ho0
    have hp := putI_pure l0 a1_0 a1_1 a1_2 a1_3 hl.1 hl.2
    rw [h] at hp
    refine (putI.calls (l0.length + 8) A c l0 a1_0 a1_1 a1_2 a1_3 r w0.heap.size w hB.size own hC hlc hp).mono ?_
    rintro e w' ⟨v, rfl, ho, hv, hg⟩
    refine ⟨v, rfl, R32_of ho (fun k hk => ?_), below_grown hB hg (fun k hk => own_base own k hk), ⟨hg.size, fun i hi hn => hg.block i hi (fun e => hn (ho0.1 i e.symm))⟩⟩
    rcases hv with hv | hv
    · exact .inl (ho0.1 k (by rw [← hv]; exact hk))
    · exact .inr (hv k hk)
end Go.Proofs.Ytehfommdgoffmaa.QObs
