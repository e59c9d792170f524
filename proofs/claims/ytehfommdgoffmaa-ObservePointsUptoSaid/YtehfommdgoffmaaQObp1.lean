/- dataflowref16.putPoint in the print's form: the ordered put, for every row of fewer than 2^40 facts. -/
import Derived.Test.YtehfommdgoffmaaQObput
namespace Go.Proofs.Ytehfommdgoffmaa.QObs
open Go.RowKit Go.Lib Go.Sort Go.Proofs.Ytehfommdgoffmaa.Cmp Go.Proofs.YtehfommdgoffmaaW.PrintWords Go.Proofs.YtehfommdgoffmaaW.PrintLast Go.Proofs.YtehfommdgoffmaaW.PrintMore
open Go.Proofs.Ytehfommdgoffmaa.Asc (put put_at)
open Go.Proofs.Ytehfommdgoffmaa.QObb (dataflowref16_before.f dataflowref16_before.l0)
set_option linter.unusedVariables false
set_option linter.unusedSimpArgs false

theorem w64 {x : Int} (h : -9223372036854775808 ≤ x) (h' : x < 9223372036854775808) : wrap64 x = x := by unfold wrap64; omega

theorem before_ok (a b c x y z : Int) (k : Nat) (hk : 4 ≤ k) : dataflowref16_before.f k [a, b, c] [x, y, z] = some (decide (a < x ∨ (a = x ∧ (b < y ∨ (b = y ∧ c < z))))) := by
  obtain ⟨k, rfl⟩ : ∃ k', k = k' + 4 := ⟨k - 4, by omega⟩
  have e1 : wrap64 (0 + 1) = 1 := w64 (by omega) (by omega)
  have e2 : wrap64 (1 + 1) = 2 := w64 (by omega) (by omega)
  have e3 : wrap64 (2 + 1) = 3 := w64 (by omega) (by omega)
  have r0 : ∀ (p q s : Int), rd [p, q, s] 0 = p := fun _ _ _ => rfl
  have r1 : ∀ (p q s : Int), rd [p, q, s] 1 = q := fun _ _ _ => rfl
  have r2 : ∀ (p q s : Int), rd [p, q, s] 2 = s := fun _ _ _ => rfl
  unfold dataflowref16_before.f
  rw [dataflowref16_before.l0, if_pos (by simp), if_pos (by simp), if_pos (by simp), r0, r0]
  by_cases h0 : a = x
  · rw [if_pos h0, e1, dataflowref16_before.l0, if_pos (by simp), if_pos (by simp), if_pos (by simp), r1, r1]
    by_cases h1 : b = y
    · rw [if_pos h1, e2, dataflowref16_before.l0, if_pos (by simp), if_pos (by simp), if_pos (by simp), r2, r2]
      by_cases h2 : c = z
      · rw [if_pos h2, e3, dataflowref16_before.l0, if_neg (by simp)]
        subst h0 h1 h2
        simp
      · rw [if_neg h2]
        subst h0 h1
        simp
    · rw [if_neg h1]
      subst h0
      simp [h1]
  · rw [if_neg h0]
    simp [h0]

theorem putP_loop (l : List S53) (x : S53) (hl : l.length < 1099511627776) : ∀ (t i : Nat), i + t = l.length → (∀ j, j < i → ltOf cf53 (l.getD j default) x = true) → ∀ k, t + 8 ≤ k →
    putP.l0 k l (i : Int) x.f0 x.f1 x.f2 = some (put (ltOf cf53) x l) := by
  have hrd : ∀ i : Nat, rd_T53 l (i : Int) = l.getD i default := fun i => by simp [rd_T53]; rfl
  have hj1 : ∀ (i k : Nat), i ≤ l.length → (∀ j, j < i → ltOf cf53 (l.getD j default) x = true) → (i < l.length → ltOf cf53 (l.getD i default) x = false) → putP.j1 (k + 1) l (i : Int) x.f0 x.f1 x.f2 = some (put (ltOf cf53) x l) := by
    intro i k hi h1 h2
    rw [putP.j1, if_pos ⟨by omega, by omega, hl⟩, put_at x l i hi h1 h2, hrd]
    congr 1
    by_cases c : i < l.length ∧ l.getD i default = x
    · rw [if_pos c, if_pos ⟨by omega, c.2⟩]
    · rw [if_neg c, if_neg (fun h => c ⟨by omega, h.2⟩)]
      rfl
  intro t
  induction t with
  | zero =>
    intro i hi h1 k hk
    obtain ⟨k, rfl⟩ : ∃ k', k = k' + 2 := ⟨k - 2, by omega⟩
    rw [putP.l0, if_neg (by omega)]
    exact hj1 i k (by omega) h1 (fun h => by omega)
  | succ t ih =>
    intro i hi h1 k hk
    obtain ⟨k, rfl⟩ : ∃ k', k = k' + 1 := ⟨k - 1, by omega⟩
    rw [putP.l0, if_pos (by omega), if_pos (by omega), before_ok _ _ _ _ _ _ k (by omega), hrd]
    simp only [Option.bind_some]
    have e := lt53 (l.getD i default) x
    by_cases c : ltOf cf53 (l.getD i default) x = true
    · rw [e] at c
      rw [if_pos c, w64 (by omega) (by omega), show (i : Int) + 1 = ((i + 1 : Nat) : Int) by push_cast; rfl]
      refine ih (i + 1) (by omega) (fun j hj => ?_) k (by omega)
      by_cases hji : j = i
      · subst hji; rw [e]; exact c
      · exact h1 j (by omega)
    · have c' : ltOf cf53 (l.getD i default) x = false := Bool.eq_false_iff.2 c
      rw [e] at c
      rw [if_neg c]
      obtain ⟨k, rfl⟩ : ∃ k', k = k' + 1 := ⟨k - 1, by omega⟩
      exact hj1 i k (by omega) h1 (fun _ => c')

theorem putP_pure (l : List S53) (a b c : Int) (hl : l.length < 1099511627776) : putP.f (l.length + 8) l a b c = some (put (ltOf cf53) ⟨a, b, c⟩ l) := by
  have := putP_loop l ⟨a, b, c⟩ hl l.length 0 (by omega) (fun j hj => by omega) (l.length + 8) (by omega)
  exact this

def dataflowref16_putPoint.f (l0 : List S53) (a1_0 a1_1 a1_2 : Int) : Option (List S53) := if l0.length < 1099511627776 then some (put (ltOf cf53) ⟨a1_0, a1_1, a1_2⟩ l0) else none

theorem dataflowref16_putPoint.calls (P0_ : Nat → Prop) (u9000_ : Value) (l0 : List S53) (a1_0 a1_1 a1_2 : Int) (r : List S53) (w0 w : World) (hB : Below w0.heap.size w0 w) (ho0 : Kd.R k53 53 w w0.heap.size P0_ u9000_ l0) (h : dataflowref16_putPoint.f l0 a1_0 a1_1 a1_2 = some r) :
    Calls Try.prog 22 #[u9000_, .agg #[.int .i64 a1_0, .int .i64 a1_1, .int .i64 a1_2]] w fun e w' => ∃ v0_, e = .returned v0_ ∧ Kd.R k53 53 w' w0.heap.size (fun k_ => (P0_ k_ ∨ w.heap.size ≤ k_)) v0_ r ∧ Below w0.heap.size w0 w' ∧ Kept w w' (fun k_ => P0_ k_) := by
  unfold dataflowref16_putPoint.f at h
  split at h
  case isFalse => cases h
  case isTrue hl =>
    obtain ⟨A, c, e, hlc, hC⟩ := Kd.R_reads ho0
    subst e
    have own := own53_of ho0
    have hp := putP_pure l0 a1_0 a1_1 a1_2 hl
    rw [h] at hp
    refine (putP.calls (l0.length + 8) A c l0 a1_0 a1_1 a1_2 r w ?_ ?_ hC hlc hp).mono ?_
    · intro e
      subst e
      rcases own.2 with ⟨e1, _⟩ | ⟨g, cap, cur, e2, _⟩
      · injection e1
      · cases e2
    · intro ad e
      subst e
      rcases own.2 with ⟨e1, _⟩ | ⟨g, cap, cur, e2, _⟩
      · cases e1
      · injection e2 with e3 e4 e5
        injection e3 with e3
        subst e3
        exact ⟨g, rfl, cells53_of own⟩
    · rintro e w' ⟨v, rfl, hv, hb⟩
      refine ⟨v, rfl, ?_, hB.trans (hb.mono hB.size), Kept.of_below hb _⟩
      rcases hv with ⟨rfl, rfl⟩ | hR
      · have hlt : ∀ k, (Value.slice A r.length c).ownBlock = some k → k < w.heap.size := by
          intro k hk
          rcases own.2 with ⟨e1, _⟩ | ⟨g, cap, cur, e2, _, hh, _⟩
          · rw [e1] at hk; simp [Value.ownBlock] at hk
          · rw [e2] at hk
            have : g = k := by simpa [Value.ownBlock] using hk
            subst this
            exact (Array.getElem?_eq_some_iff.1 hh).1
        refine R53_of (own_move own fun k hk => hb.block k (hlt k hk)) (fun k hk => .inl (ho0.1 k hk))
      · exact R53_of (own_weaken (own53_of hR) hB.size) (fun k hk => .inr (Kd.R_base hR k hk))
end Go.Proofs.Ytehfommdgoffmaa.QObs
