/- Ascending rows without doubles: two of them with the same members are one; what an ordered put and what a compacted sorted row hold. No condition. -/
import Derived.Lib.SlicesCompact
namespace Go.Proofs.Ytehfommdgoffmaa.Asc
open Go.Lib
set_option linter.unusedVariables false
set_option linter.unusedSectionVars false
section
variable {α : Type} [Inhabited α] [DecidableEq α] {lt : α → α → Bool}

/-- lt is a strict total order. -/
structure Sto (lt : α → α → Bool) : Prop where
  irr : ∀ x, lt x x = false
  tr : ∀ x y z, lt x y = true → lt y z = true → lt x z = true
  tot : ∀ x y, lt x y = false → lt y x = false → x = y

/-- A row ascends strictly. -/
def Asc (lt : α → α → Bool) (l : List α) : Prop := l.Pairwise (fun x y => lt x y = true)

theorem Sto.nl (h : Sto lt) {x y : α} (hx : lt x y = true) : lt y x = false := by
  cases e : lt y x
  · rfl
  · have := h.tr _ _ _ hx e
    rw [h.irr] at this
    cases this

theorem asc_ext (h : Sto lt) : ∀ {l m : List α}, Asc lt l → Asc lt m → (∀ x, x ∈ l ↔ x ∈ m) → l = m
  | [], [], _, _, _ => rfl
  | [], b :: m, _, _, hx => absurd ((hx b).2 (by simp)) (by simp)
  | a :: l, [], _, _, hx => absurd ((hx a).1 (by simp)) (by simp)
  | a :: l, b :: m, hl, hm, hx => by
    obtain ⟨hl1, hl2⟩ := List.pairwise_cons.1 hl
    obtain ⟨hm1, hm2⟩ := List.pairwise_cons.1 hm
    have hab : a = b := by
      rcases List.mem_cons.1 ((hx a).1 (by simp)) with e | e
      · exact e
      · rcases List.mem_cons.1 ((hx b).2 (by simp)) with e' | e'
        · exact e'.symm
        · have h1 := hm1 a e
          have h2 := hl1 b e'
          rw [h.nl h1] at h2
          cases h2
    subst hab
    have : l = m := asc_ext h hl2 hm2 fun x => by
      constructor
      · intro hxl
        rcases List.mem_cons.1 ((hx x).1 (List.mem_cons_of_mem _ hxl)) with e | e
        · subst e; have := hl1 x hxl; rw [h.irr] at this; cases this
        · exact e
      · intro hxm
        rcases List.mem_cons.1 ((hx x).2 (List.mem_cons_of_mem _ hxm)) with e | e
        · subst e; have := hm1 x hxm; rw [h.irr] at this; cases this
        · exact e
    rw [this]

/-- x is put into an ascending row, if it is not there. -/
def put (lt : α → α → Bool) (x : α) : List α → List α
  | [] => [x]
  | y :: t => if lt y x = true then y :: put lt x t else if y = x then y :: t else x :: y :: t

theorem mem_put (x : α) : ∀ (l : List α) (z : α), z ∈ put lt x l ↔ z = x ∨ z ∈ l
  | [], z => by simp [put]
  | y :: t, z => by
    unfold put
    split
    · rw [List.mem_cons, mem_put x t z, List.mem_cons]
      constructor
      · rintro (h | h | h) <;> simp [h]
      · rintro (h | h | h) <;> simp [h]
    · split
      · rename_i _ e
        subst e
        simp
      · simp

theorem asc_put (h : Sto lt) (x : α) : ∀ {l : List α}, Asc lt l → Asc lt (put lt x l)
  | [], _ => by simp [put, Asc]
  | y :: t, hl => by
    obtain ⟨h1, h2⟩ := List.pairwise_cons.1 hl
    unfold put
    split
    · rename_i hyx
      refine List.pairwise_cons.2 ⟨fun z hz => ?_, asc_put h x h2⟩
      rcases (mem_put x t z).1 hz with e | e
      · rw [e]; exact hyx
      · exact h1 z e
    · rename_i hyx
      have hyx' : lt y x = false := Bool.eq_false_iff.2 hyx
      split
      · exact hl
      · rename_i hne
        have hxy : lt x y = true := by
          cases e : lt x y
          · exact absurd (h.tot _ _ hyx' e) hne
          · rfl
        refine List.pairwise_cons.2 ⟨fun z hz => ?_, hl⟩
        rcases List.mem_cons.1 hz with e | e
        · rw [e]; exact hxy
        · exact h.tr _ _ _ hxy (h1 z e)

theorem put_len (x : α) : ∀ (l : List α), (put lt x l).length ≤ l.length + 1
  | [] => by simp [put]
  | y :: t => by
    have := put_len x t
    unfold put
    split
    · simp; omega
    · split <;> simp

/-- The places before n hold less than x, and place n does not: the put takes place there. -/
theorem put_at (x : α) : ∀ (l : List α) (n : Nat), n ≤ l.length → (∀ j, j < n → lt (l.getD j default) x = true) → (n < l.length → lt (l.getD n default) x = false) →
    put lt x l = if n < l.length ∧ l.getD n default = x then l else l.take n ++ x :: l.drop n
  | [], n, hn, _, _ => by
    have : n = 0 := by simpa using hn
    subst this
    simp [put]
  | y :: t, 0, _, _, h0 => by
    have h := h0 (by simp)
    simp only [List.getD_cons_zero] at h
    unfold put
    rw [if_neg (by rw [h]; simp)]
    by_cases e : y = x
    · rw [if_pos e, if_pos ⟨by simp, by simpa using e⟩]
    · rw [if_neg e, if_neg (by simpa using e)]
      simp
  | y :: t, n + 1, hn, hj, h0 => by
    have h := hj 0 (by omega)
    simp only [List.getD_cons_zero] at h
    unfold put
    rw [if_pos h, put_at x t n (by simpa using hn) (fun j hj' => by have := hj (j + 1) (by omega); simpa using this) (fun h' => by have := h0 (by simpa using h'); simpa using this)]
    by_cases c : n < t.length ∧ t.getD n default = x
    · rw [if_pos c, if_pos (by simpa using c)]
    · rw [if_neg c, if_neg (by simpa using c)]
      simp

/-- What is kept of the first m places of a sorted row: it ascends and holds what they hold. -/
theorem compactUpTo_asc (h : Sto lt) (d : Array α) (hs : ∀ i j : Nat, i ≤ j → j < d.size → lt d[j]! d[i]! = false) : ∀ m, m ≤ d.size →
    Asc lt (compactUpTo d m) ∧ ∀ x, x ∈ compactUpTo d m ↔ ∃ j, j < m ∧ d[j]! = x
  | 0, _ => by
    constructor
    · simp [compactUpTo, Asc]
    · simp [compactUpTo]
  | m + 1, hm => by
    obtain ⟨h1, h2⟩ := compactUpTo_asc h d hs m (by omega)
    rw [compactUpTo_succ]
    cases hk : keeps d m
    · have hk' : m ≠ 0 ∧ d[m]! = d[m - 1]! := by
        have : ¬ (m = 0 ∨ d[m]! ≠ d[m - 1]!) := of_decide_eq_false hk
        constructor
        · exact fun e => this (.inl e)
        · exact Classical.byContradiction fun e => this (.inr e)
      simp only [Bool.false_eq_true, if_false, List.append_nil]
      refine ⟨h1, fun x => ?_⟩
      rw [h2]
      constructor
      · rintro ⟨j, hj, e⟩; exact ⟨j, by omega, e⟩
      · rintro ⟨j, hj, e⟩
        by_cases hjm : j = m
        · subst hjm; exact ⟨j - 1, by omega, by rw [← hk'.2]; exact e⟩
        · exact ⟨j, by omega, e⟩
    · have hk' : m = 0 ∨ d[m]! ≠ d[m - 1]! := of_decide_eq_true hk
      simp only [if_true]
      constructor
      · unfold Asc
        rw [List.pairwise_append]
        refine ⟨h1, by simp, fun x hx y hy => ?_⟩
        obtain rfl : y = d[m]! := by simpa using hy
        obtain ⟨j, hj, rfl⟩ := (h2 x).1 hx
        rcases hk' with e | hne
        · omega
        · have a1 := hs (m - 1) m (by omega) (by omega)
          have a2 : lt d[m - 1]! d[m]! = true := by
            cases e : lt d[m - 1]! d[m]!
            · exact absurd (h.tot _ _ a1 e) hne
            · rfl
          have a3 := hs j (m - 1) (by omega) (by omega)
          cases e : lt d[j]! d[m - 1]!
          · rw [h.tot _ _ e a3]; exact a2
          · exact h.tr _ _ _ e a2
      · intro x
        rw [List.mem_append, h2]
        constructor
        · rintro (⟨j, hj, e⟩ | e)
          · exact ⟨j, by omega, e⟩
          · exact ⟨m, by omega, by simpa using (List.mem_singleton.1 e).symm⟩
        · rintro ⟨j, hj, e⟩
          by_cases hjm : j = m
          · subst hjm; exact .inr (by simp [e])
          · exact .inl ⟨j, by omega, e⟩

theorem compact_asc (h : Sto lt) (l : List α) (hs : l.Pairwise (fun x y => lt y x = false)) : Asc lt (compact l) ∧ ∀ x, x ∈ compact l ↔ x ∈ l := by
  have hq : ∀ i j : Nat, i ≤ j → j < l.toArray.size → lt l.toArray[j]! l.toArray[i]! = false := by
    intro i j hij hj
    have hj' : j < l.length := by simpa using hj
    rw [getElem!_pos l.toArray j hj, getElem!_pos l.toArray i (by omega)]
    rcases Nat.lt_or_eq_of_le hij with e | e
    · have := List.pairwise_iff_getElem.1 hs i j (by omega) hj' e
      simpa using this
    · subst e; exact h.irr _
  obtain ⟨h1, h2⟩ := compactUpTo_asc h l.toArray hq l.length (by simp)
  refine ⟨h1, fun x => ?_⟩
  unfold compact
  rw [h2, List.mem_iff_getElem]
  constructor
  · rintro ⟨j, hj, e⟩
    exact ⟨j, hj, by rw [← e, getElem!_pos l.toArray j (by simpa using hj)]; simp⟩
  · rintro ⟨j, hj, e⟩
    exact ⟨j, hj, by rw [getElem!_pos l.toArray j (by simpa using hj), ← e]; simp⟩
end
end Go.Proofs.Ytehfommdgoffmaa.Asc
