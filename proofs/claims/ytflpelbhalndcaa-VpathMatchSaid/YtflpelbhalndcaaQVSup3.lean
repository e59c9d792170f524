/- super.Check answers, whatever the graph (of at most 8192 nodes and 32768 edges, or more); and where it answers OK, every edge is in range and keeps to its functions. -/
import Derived.Test.YtflpelbhalndcaaQVSup2
namespace Go.Proofs.Ytflpelbhalndcaa.QV
open Go.RowKit Go.Proofs.YtflpelbhalndcaaW.PrintWords Go.Proofs.YtflpelbhalndcaaW.PrintLast Go.Proofs.YtflpelbhalndcaaW.PrintMore
open Go.Proofs.Ytflpelbhalndcaa.Cmp
set_option linter.unusedVariables false
set_option linter.unusedSimpArgs false

/-- The numbers of an edge are in range. -/
def inRange (N : List S35) (d : S32) : Prop := 0 ≤ d.f0 ∧ d.f0 < N.length ∧ 0 ≤ d.f1 ∧ d.f1 < N.length ∧ 1 ≤ d.f2 ∧ d.f2 ≤ 5 ∧ (d.f2 = 3 ∨ d.f2 = 4 → 0 ≤ d.f3 ∧ d.f3 < N.length)
/-- An edge keeps to its functions. -/
def keeps (N : List S35) (d : S32) : Prop := inRange N d ∧ (d.f2 = 1 ∨ d.f2 = 5 → (rd_T35 N d.f0).f0 = (rd_T35 N d.f1).f0) ∧ (d.f2 = 3 ∨ d.f2 = 4 → (rd_T35 N d.f1).f0 = (rd_T35 N d.f3).f0)

theorem edgeErr_cases (N : List S35) (E : List S32) (i : Int) (h : edgeErr N E i = 0 ∨ edgeErr N E i = 20) : inRange N (rd_T32 E i) ∧ (edgeErr N E i = 0 → fitsF N E (rd_T32 E i) = true) := by
  unfold edgeErr at h ⊢
  generalize rd_T32 E i = d at h ⊢
  by_cases c1 : d.f0 < 0 ∨ d.f0 ≥ N.length ∨ d.f1 < 0 ∨ d.f1 ≥ N.length
  · rw [if_pos c1] at h; omega
  · rw [if_neg c1] at h ⊢
    by_cases c2 : d.f2 < 1 ∨ d.f2 > 5
    · rw [if_pos c2] at h; omega
    · rw [if_neg c2] at h ⊢
      by_cases c3 : (if d.f2 = 1 ∨ d.f2 = 5 then d.f3 ≠ -1 else (d.f3 < 0 ∨ d.f3 ≥ N.length))
      · rw [if_pos c3] at h; omega
      · rw [if_neg c3] at h ⊢
        have hr : inRange N d := by
          refine ⟨by omega, by omega, by omega, by omega, by omega, by omega, fun h4 => ?_⟩
          rw [if_neg (by omega)] at c3
          omega
        refine ⟨hr, ?_⟩
        by_cases c4 : i > 0 ∧ cf32 (rd_T32 E (i - 1)) d ≥ 0
        · rw [if_pos c4] at h; omega
        · rw [if_neg c4]
          cases fitsF N E d with
          | true => simp
          | false => simp

theorem keeps_of (N : List S35) (E : List S32) (d : S32) (hr : inRange N d) (hf : fitsF N E d = true) : keeps N d := by
  refine ⟨hr, fun h => ?_, fun h => ?_⟩
  · unfold fitsF at hf
    rw [if_pos h] at hf
    simp only [Bool.and_eq_true, decide_eq_true_eq] at hf
    exact hf.2.1
  · unfold fitsF at hf
    rw [if_neg (by omega), if_neg (by omega)] at hf
    simp only [Bool.and_eq_true, decide_eq_true_eq] at hf
    exact hf.2.2.1

theorem check_loop (N : List S35) (E : List S32) (m : Int) (hE : E.length ≤ 32768) : ∀ (t i : Nat), i + t = E.length → ∃ e, (∀ k, t + 3 * E.length + 15 ≤ k → super_Check.l0 k (E.length : Int) (i : Int) N E m = some e) ∧
    (e = 0 → ∀ j : Nat, i ≤ j → j < E.length → keeps N (rd_T32 E (j : Int))) := by
  intro t
  induction t with
  | zero =>
    intro i h
    refine ⟨0, fun k hk => ?_, fun _ j h1 h2 => by omega⟩
    obtain ⟨k, rfl⟩ : ∃ k', k = k' + 1 := ⟨k - 1, by omega⟩
    rw [super_Check.l0, if_neg (by omega)]
  | succ t ih =>
    intro i h
    obtain ⟨e, h1, h2⟩ := ih (i + 1) (by omega)
    by_cases h0 : edgeErr N E (i : Int) = 0
    · refine ⟨e, fun k hk => ?_, fun he j hj1 hj2 => ?_⟩
      · obtain ⟨k, rfl⟩ : ∃ k', k = k' + 1 := ⟨k - 1, by omega⟩
        rw [super_Check.l0, if_pos (by omega), edge_ok N E m (i : Int) (by omega) (by omega) (by omega) k (by omega)]
        simp only [Option.bind_some]
        rw [if_pos h0, w64 (by omega) (by omega)]
        exact h1 k (by omega)
      · by_cases hji : j = i
        · subst hji
          obtain ⟨hr, hf⟩ := edgeErr_cases N E (j : Int) (Or.inl h0)
          exact keeps_of N E _ hr (hf h0)
        · exact h2 he j (by omega) hj2
    · refine ⟨edgeErr N E (i : Int), fun k hk => ?_, fun he => absurd he h0⟩
      obtain ⟨k, rfl⟩ : ∃ k', k = k' + 1 := ⟨k - 1, by omega⟩
      rw [super_Check.l0, if_pos (by omega), edge_ok N E m (i : Int) (by omega) (by omega) (by omega) k (by omega)]
      simp only [Option.bind_some]
      rw [if_neg h0]

theorem take_rd (E : List S32) (i : Nat) (h : i < E.length) : rd_T32 (E.take (i + 1)) (i : Int) = rd_T32 E (i : Int) := by
  rw [rd32_nat, rd32_nat, List.getD_eq_getElem?_getD, List.getD_eq_getElem?_getD, List.getElem?_take, if_pos (by omega)]

theorem uns_loop (N : List S35) (E S : List S32) (m : Int) (hE : E.length ≤ 32768) (hS : S.length ≤ 32768) : ∀ (t i : Nat), i + t = E.length → ∃ e, (∀ k, 3 * t + 200000 ≤ k → super_unsorted.l0 k E (E.length : Int) (i : Int) N E m N S 0 = some e) ∧
    (e = 0 → ∀ j : Nat, i ≤ j → j < E.length → keeps N (rd_T32 E (j : Int))) := by
  intro t
  induction t with
  | zero =>
    intro i h
    refine ⟨0, fun k hk => ?_, fun _ j h1 h2 => by omega⟩
    obtain ⟨k, rfl⟩ : ∃ k', k = k' + 1 := ⟨k - 1, by omega⟩
    rw [super_unsorted.l0, if_neg (by omega)]
  | succ t ih =>
    intro i h
    obtain ⟨e, h1, h2⟩ := ih (i + 1) (by omega)
    have hlen : (E.take (i + 1)).length = i + 1 := by rw [List.length_take]; omega
    have hck : ∀ k, 200000 ≤ k → super_checkEdge.f k N (E.take (i + 1)) 0 (i : Int) = some (edgeErr N (E.take (i + 1)) (i : Int)) := fun k hk => edge_ok N (E.take (i + 1)) 0 (i : Int) (by omega) (by omega) (by rw [hlen]; omega) k (by rw [hlen]; omega)
    have hrd := take_rd E i (by omega)
    generalize hee : edgeErr N (E.take (i + 1)) (i : Int) = ee at hck
    have hcs := edgeErr_cases N (E.take (i + 1)) (i : Int)
    rw [hee, hrd] at hcs
    -- one round up to j2
    have hj2 : ∀ k, 3 * t + 200000 ≤ k → ∀ x6 : Int, super_unsorted.j2 (k + 1) x6 E (E.length : Int) (i : Int) N E m N S 0 = if x6 = 0 then some e else some x6 := by
      intro k hk x6
      rw [super_unsorted.j2, w64 (by omega) (by omega)]
      by_cases c : x6 = 0
      · rw [if_pos c, if_pos c]; exact h1 k hk
      · rw [if_neg c, if_neg c]
    have hj1 : ∀ k, 3 * t + 200000 ≤ k → ∀ (x6 : Int) (b : Bool), super_unsorted.j1 (k + 2) x6 E (E.length : Int) (i : Int) b N E m N S 0 = if b = true then some e else if x6 = 0 then some e else some x6 := by
      intro k hk x6 b
      rw [super_unsorted.j1]
      cases b with
      | true => rw [if_pos rfl, if_pos rfl, hj2 k hk]; rfl
      | false => rw [if_neg (by simp), if_neg (by simp), hj2 k hk]
    have hstart : ∀ k, 3 * t + 200000 ≤ k → super_unsorted.l0 (k + 3) E (E.length : Int) (i : Int) N E m N S 0 =
        if ee = 20 then (if (rd_T32 E (i : Int)).f2 = 2 then some 20 else if fitsF N S (rd_T32 E (i : Int)) = true then some e else some 20) else if ee = 0 then some e else some ee := by
      intro k hk
      have ht : (((i + 1 : Nat) : Int)).toNat = i + 1 := by simp
      rw [super_unsorted.l0, if_pos (by omega), if_pos (by omega), if_pos (by omega), w64 (by omega) (by omega), show (i : Int) + 1 = ((i + 1 : Nat) : Int) by push_cast; rfl, if_pos (by omega), if_pos (by omega), ht, hck (k + 2) (by omega)]
      simp only [Option.bind_some]
      by_cases c1 : ee = 20
      · rw [if_pos c1, if_pos c1]
        obtain ⟨hr, -⟩ := hcs (Or.inr c1)
        obtain ⟨r0, r1, r2, r3, r4, r5, r6⟩ := hr
        by_cases c2 : (rd_T32 E (i : Int)).f2 = 2
        · rw [if_pos c2, if_pos c2, hj1 k hk, if_neg (by simp), if_neg (by omega), c1]
        · rw [if_neg c2, if_neg c2, fits_ok N S 0 _ (by omega) (k + 2) (by omega) r0 r1 r2 r3 r6 ⟨r4, r5⟩]
          simp only [Option.bind_some]
          rw [hj1 k hk, c1]
          rfl
      · rw [if_neg c1, if_neg c1, hj1 k hk, if_neg (by simp)]
    by_cases c1 : ee = 20
    · by_cases c2 : (rd_T32 E (i : Int)).f2 = 2
      · refine ⟨20, fun k hk => ?_, fun he => by omega⟩
        obtain ⟨k, rfl⟩ : ∃ k', k = k' + 3 := ⟨k - 3, by omega⟩
        rw [hstart k (by omega), if_pos c1, if_pos c2]
      · by_cases c3 : fitsF N S (rd_T32 E (i : Int)) = true
        · refine ⟨e, fun k hk => ?_, fun he j hj1' hj2' => ?_⟩
          · obtain ⟨k, rfl⟩ : ∃ k', k = k' + 3 := ⟨k - 3, by omega⟩
            rw [hstart k (by omega), if_pos c1, if_neg c2, if_pos c3]
          · by_cases hji : j = i
            · subst hji
              exact keeps_of N S _ (hcs (Or.inr c1)).1 c3
            · exact h2 he j (by omega) hj2'
        · refine ⟨20, fun k hk => ?_, fun he => by omega⟩
          obtain ⟨k, rfl⟩ : ∃ k', k = k' + 3 := ⟨k - 3, by omega⟩
          rw [hstart k (by omega), if_pos c1, if_neg c2, if_neg c3]
    · by_cases c2 : ee = 0
      · refine ⟨e, fun k hk => ?_, fun he j hj1' hj2' => ?_⟩
        · obtain ⟨k, rfl⟩ : ∃ k', k = k' + 3 := ⟨k - 3, by omega⟩
          rw [hstart k (by omega), if_neg c1, if_pos c2]
        · by_cases hji : j = i
          · subst hji
            have := hcs (Or.inl c2)
            exact keeps_of N (E.take (j + 1)) _ this.1 (this.2 c2)
          · exact h2 he j (by omega) hj2'
      · refine ⟨ee, fun k hk => ?_, fun he => absurd he c2⟩
        obtain ⟨k, rfl⟩ : ∃ k', k = k' + 3 := ⟨k - 3, by omega⟩
        rw [hstart k (by omega), if_neg c1, if_neg c2]

/-- super.Check answers; OK means that every edge keeps to its functions. -/
theorem check_any (N : List S35) (E : List S32) (m : Int) (hN : N.length ≤ 1000000) (hw : (N.all fun x => (Lit.int .i64 x.f0).wf) = true) :
    ∃ e, (∀ k, 400000 ≤ k → super_Check.f k N E m = some e) ∧ (e = 0 → 0 < N.length ∧ ∀ j : Nat, j < E.length → keeps N (rd_T32 E (j : Int))) := by
  by_cases c1 : (N.length : Int) > 8192
  · refine ⟨3, fun k hk => ?_, fun h => by omega⟩
    obtain ⟨k, rfl⟩ : ∃ k', k = k' + 1 := ⟨k - 1, by omega⟩
    unfold super_Check.f
    rw [if_pos c1, super_Check.j0, if_pos rfl]
  · by_cases c2 : (E.length : Int) > 32768
    · refine ⟨3, fun k hk => ?_, fun h => by omega⟩
      obtain ⟨k, rfl⟩ : ∃ k', k = k' + 1 := ⟨k - 1, by omega⟩
      unfold super_Check.f
      rw [if_neg c1, super_Check.j0, if_pos (by simpa using c2)]
    · have hst : ∀ k, super_Check.f (k + 1) N E m = if nodesErr N = 0 then (if m < 0 then super_Check.j1 k true N E m else (if m ≥ (N.length : Int) then super_Check.j1 k true N E m else super_Check.j1 k (((rd_T35 N m).f1) != 1) N E m)) else some (nodesErr N) := by
        intro k
        unfold super_Check.f
        rw [if_neg c1, super_Check.j0, if_neg (by simpa using c2)]
        unfold super_checkNodes.f
        rw [if_pos ⟨hN, hw⟩]
        simp only [Option.bind_some]
        by_cases c3 : nodesErr N = 0
        · rw [if_pos c3, if_pos c3]
          by_cases c4 : m < 0
          · rw [if_pos c4, if_pos c4]
          · rw [if_neg c4, if_neg c4]
            by_cases c5 : m ≥ (N.length : Int)
            · rw [if_pos c5, if_pos c5]
            · rw [if_neg c5, if_neg c5, if_pos (by omega), if_pos (by omega)]
        · rw [if_neg c3, if_neg c3]
      have hj1t : ∀ k, super_Check.j1 (k + 1) true N E m = some 14 := fun k => by rw [super_Check.j1, if_pos rfl]
      by_cases c3 : nodesErr N = 0
      · by_cases c4 : m < 0 ∨ m ≥ (N.length : Int)
        · refine ⟨14, fun k hk => ?_, fun h => by omega⟩
          obtain ⟨k, rfl⟩ : ∃ k', k = k' + 2 := ⟨k - 2, by omega⟩
          rw [hst (k + 1), if_pos c3]
          by_cases c5 : m < 0
          · rw [if_pos c5, hj1t]
          · rw [if_neg c5, if_pos (by omega), hj1t]
        · by_cases c6 : (rd_T35 N m).f1 = 1
          · have hf : ∀ k, super_Check.f (k + 2) N E m = if sortedF E = true then super_Check.l0 k (E.length : Int) 0 N E m else (super_unsorted.f k N E m).bind fun t => some t := by
              intro k
              rw [hst (k + 1), if_pos c3, if_neg (by omega), if_neg (by omega), super_Check.j1, if_neg (by simp [c6])]
              unfold api_SEdge_109.f
              simp only [Option.bind_some]
            by_cases c7 : sortedF E = true
            · obtain ⟨e, h1, h2⟩ := check_loop N E m (by omega) E.length 0 (by omega)
              refine ⟨e, fun k hk => ?_, fun he => ⟨by omega, fun j hj => h2 he j (Nat.zero_le _) hj⟩⟩
              obtain ⟨k, rfl⟩ : ∃ k', k = k' + 2 := ⟨k - 2, by omega⟩
              rw [hf, if_pos c7]
              exact h1 k (by omega)
            · have hE0 : 0 < E.length := by
                rcases Nat.eq_zero_or_pos E.length with h | h
                · have : E = [] := List.length_eq_zero_iff.1 h
                  subst this; exact absurd rfl c7
                · exact h
              have hSl : (sort32 E).length = E.length := by simp [sort32]
              obtain ⟨e, h1, h2⟩ := uns_loop N E (sort32 E) m (by omega) (by omega) E.length 0 (by omega)
              refine ⟨e, fun k hk => ?_, fun he => ⟨by omega, fun j hj => h2 he j (Nat.zero_le _) hj⟩⟩
              obtain ⟨k, rfl⟩ : ∃ k', k = k' + 2 := ⟨k - 2, by omega⟩
              rw [hf, if_neg c7]
              have h99 : api_SEdge_99.f E = some E := by
                unfold api_SEdge_99.f
                simp only [Option.bind_some]
                rw [if_pos (by simp; omega)]
                simp
              have h148 : api_SEdge_148.f E = some (sort32 E) := by
                unfold api_SEdge_148.f
                rw [if_pos ⟨hE0, by omega⟩]
              unfold super_unsorted.f
              rw [h99]
              simp only [Option.bind_some]
              rw [h148]
              simp only [Option.bind_some]
              rw [show (0 : Int) = ((0 : Nat) : Int) from rfl] at *
              rw [h1 k (by omega)]
              rfl
          · refine ⟨14, fun k hk => ?_, fun h => by omega⟩
            obtain ⟨k, rfl⟩ : ∃ k', k = k' + 2 := ⟨k - 2, by omega⟩
            rw [hst (k + 1), if_pos c3, if_neg (by omega), if_neg (by omega), show ((rd_T35 N m).f1 != 1) = true from bne_iff_ne.mpr c6, hj1t]
      · refine ⟨nodesErr N, fun k hk => ?_, fun h => absurd h c3⟩
        obtain ⟨k, rfl⟩ : ∃ k', k = k' + 1 := ⟨k - 1, by omega⟩
        rw [hst k, if_neg c3]
end Go.Proofs.Ytflpelbhalndcaa.QV
