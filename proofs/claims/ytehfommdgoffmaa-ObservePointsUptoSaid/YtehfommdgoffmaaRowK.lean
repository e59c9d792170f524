/- Rows of elements of k cells: one element stored, the tail made zero values; the built-in clear at such a row. No condition. -/
import Derived.Lib.SlicesCompact
import Derived.Lib.SliceRun
import Derived.Shelf.SlSortFuncK.RowK2
import Derived.Shelf.SlicesQ.Load
namespace Go.Proofs.Ytehfommdgoffmaa.RowK
open Go.Sort Go.Lib Go.RowKit
set_option linter.unusedVariables false
variable {α : Type} [Inhabited α]

theorem bnd {i n k : Nat} (h : i < n) : i * k + k ≤ n * k := by
  have := Nat.mul_le_mul_right k (show i + 1 ≤ n from h)
  rwa [Nat.add_mul, Nat.one_mul] at this

theorem setMany_set (enc : α → List Value) (k : Nat) (hk : ∀ x, (enc x).length = k) (d : Array α) (i : Nat) (hi : i < d.size) (x : α) :
    setMany (flatK enc k d) (i * k) (enc x) = flatK enc k (d.setIfInBounds i x) := by
  refine ext_get! (by simp) fun t ht => ?_
  have ht' : t < d.size * k := by simpa using ht
  have k0 : 0 < k := by
    rcases Nat.eq_zero_or_pos k with h | h
    · subst h; simp at ht'
    · exact h
  rw [get_setMany _ _ _ t (by simpa using ht'), get_flatK _ _ _ t ht', get_flatK _ _ _ t (by simpa using ht'), hk]
  by_cases a : t / k = i
  · rw [if_pos ((blk_iff k i t k0).2 a)]
    have m : t - i * k = t % k := by subst a; rw [Nat.mod_eq_sub_div_mul]
    rw [m, a, getElem!_set_same d i x hi]
  · rw [if_neg (fun h => a ((blk_iff k i t k0).1 h)), getElem!_set_other d i (t / k) x a]

theorem setCells_K (enc : α → List Value) (k : Nat) (hk : ∀ x, (enc x).length = k) (w : World) (blk off : Nat) (d : Array α) (i : Nat) (hi : i < d.size) (x : α) :
    (putRowK enc k w blk off d).setCells blk (off + i * k) (enc x) = putRowK enc k w blk off (d.setIfInBounds i x) := by
  unfold putRowK
  rw [setCells_putRow _ _ _ _ _ _ (by rw [hk, size_flatK]; exact bnd hi), setMany_set enc k hk d i hi]

/-- An element stored into the row, one draw on. -/
theorem store_worldK (enc : α → List Value) (k : Nat) (hk : ∀ x, (enc x).length = k) {w wr : World} {n blk off : Nat} {dk : Array α} {i : Nat} (hi : i < dk.size) (hwr : wr = putRowK enc k (Sort.ahead w n) blk off dk) (x : α) (q : Nat) :
    (wr.drewN q).setCells blk (off + i * k) (enc x) = putRowK enc k (Sort.ahead w (n + q)) blk off (dk.setIfInBounds i x) := by
  subst hwr
  rw [putRowK_drewN, setCells_K enc k hk _ _ _ _ _ hi]

theorem zero_get (z : Array Value) (n u : Nat) (h : u < n * z.size) : (Builtin.zeroCells z n).toList[u]! = z[u % z.size]! := by
  have hs : (Builtin.zeroCells z n).size = n * z.size := by simp [Builtin.zeroCells]
  have h2 : u < (Builtin.zeroCells z n).toList.length := by simpa [hs] using h
  rw [getElem!_pos (Builtin.zeroCells z n).toList u h2]
  simp [Builtin.zeroCells]

theorem zero_len (z : Array Value) (n : Nat) : (Builtin.zeroCells z n).toList.length = n * z.size := by simp [Builtin.zeroCells]

theorem setMany_zero (enc : α → List Value) (k : Nat) (hk : ∀ x, (enc x).length = k) (d : Array α) (i n : Nat) (hi : i + n ≤ d.size) (z : α) :
    setMany (flatK enc k d) (i * k) (Builtin.zeroCells (enc z).toArray n).toList = flatK enc k (lay d i (List.replicate n z)) := by
  have hls : (lay d i (List.replicate n z)).size = d.size := by
    have : ∀ (xs : List α) (d : Array α) (i : Nat), (lay d i xs).size = d.size := by
      intro xs
      induction xs with
      | nil => intro d i; rfl
      | cons x t ih => intro d i; rw [lay, ih]; simp
    exact this _ _ _
  refine ext_get! (by simp [hls]) fun t ht => ?_
  have ht' : t < d.size * k := by simpa using ht
  have k0 : 0 < k := by
    rcases Nat.eq_zero_or_pos k with h | h
    · subst h; simp at ht'
    · exact h
  have hz : (enc z).toArray.size = k := by simp [hk]
  rw [get_setMany _ _ _ t (by simpa using ht'), get_flatK _ _ _ t ht', get_flatK _ _ _ t (by rw [hls]; exact ht'), zero_len, hz]
  have c1 : i * k ≤ t ↔ i ≤ t / k := (Nat.le_div_iff_mul_le k0).symm
  have c2 : t < i * k + n * k ↔ t / k < i + n := by rw [← Nat.add_mul]; exact (Nat.div_lt_iff_lt_mul k0).symm
  have htk : t / k < d.size := (Nat.div_lt_iff_lt_mul k0).2 ht'
  have hg := lay_get? (List.replicate n z) d i (t / k) (by simpa using hi)
  by_cases c : i * k ≤ t ∧ t < i * k + n * k
  · rw [if_pos c]
    have c' : i ≤ t / k ∧ t / k < i + n := ⟨c1.1 c.1, c2.1 c.2⟩
    rw [if_pos (by simpa using c')] at hg
    rw [zero_get _ _ _ (by rw [hz]; omega), hz]
    have e1 : (t - i * k) % k = t % k := by
      obtain ⟨u, rfl⟩ : ∃ u, t = i * k + u := ⟨t - i * k, by omega⟩
      rw [Nat.add_sub_cancel_left, Nat.mul_comm i k, Nat.mul_add_mod]
    rw [e1]
    have e2 : (lay d i (List.replicate n z))[t / k]! = z := by
      rw [getElem!_pos _ (t / k) (by rw [hls]; exact htk)]
      rw [Array.getElem?_eq_getElem (by rw [hls]; exact htk), List.getElem?_replicate, if_pos (by omega)] at hg
      exact Option.some.inj hg
    rw [e2]
    have hm : t % k < (enc z).length := by rw [hk]; exact Nat.mod_lt _ k0
    rw [getElem!_pos (enc z).toArray (t % k) (by simpa using hm), getElem!_pos (enc z) (t % k) hm]
    simp
  · rw [if_neg c]
    have c' : ¬ (i ≤ t / k ∧ t / k < i + n) := fun h => c ⟨c1.2 h.1, c2.2 h.2⟩
    rw [if_neg (by simpa using c')] at hg
    have e2 : (lay d i (List.replicate n z))[t / k]! = d[t / k]! := by
      rw [getElem!_pos _ (t / k) (by rw [hls]; exact htk), getElem!_pos d (t / k) htk]
      rw [Array.getElem?_eq_getElem (by rw [hls]; exact htk), Array.getElem?_eq_getElem htk] at hg
      exact Option.some.inj hg
    rw [e2]

theorem setCells_zero (enc : α → List Value) (k : Nat) (hk : ∀ x, (enc x).length = k) (w : World) (blk off : Nat) (d : Array α) (i n : Nat) (hi : i + n ≤ d.size) (z : α) :
    (putRowK enc k w blk off d).setCells blk (off + i * k) (Builtin.zeroCells (enc z).toArray n).toList = putRowK enc k w blk off (lay d i (List.replicate n z)) := by
  unfold putRowK
  rw [setCells_putRow _ _ _ _ _ _ (by rw [zero_len, size_flatK, List.size_toArray, hk, ← Nat.add_mul]; exact Nat.mul_le_mul_right _ hi), setMany_zero enc k hk d i n hi]

/-- The built-in clear at a row of structs. -/
theorem run_clear {P : Program} (w : World) (t e ty : TypeId) (z : Value) (ht : P.underlying t = some (.slice e)) (hv : ∀ w, (zeroValue e).run P w = .ok z w) (h1 : ∀ v ∈ z.cells, v.oneCell' = true) (b o n c : Nat) (hn : 0 < n)
    (hc : ∀ j, j < n * z.cells.size → (w.cell? ⟨b, o + j, none⟩).isSome = true) (hf : ∀ j, j < n * z.cells.size → w.frozen? ⟨b, o + j, none⟩ = false) :
    (Builtin.clear_ #[t] ty #[.slice (some ⟨b, o, none⟩) n c]).run P w = .ok (.tuple #[]) (w.setCells b o (Builtin.zeroCells z.cells n).toList) := by
  have hl := zero_len z.cells n
  have hst := run_storeCells_cells (P := P) b o (Builtin.zeroCells z.cells n).toList 0 w (by rw [hl]; simpa using hc) (by rw [hl]; simpa using hf) (by
    intro v hv'
    obtain ⟨i, hi, e⟩ := List.mem_iff_getElem.1 hv'
    have hi' : i < n * z.cells.size := by rw [← hl]; exact hi
    have h0 : 0 < z.cells.size := by
      rcases Nat.eq_zero_or_pos z.cells.size with h | h
      · rw [h] at hi'; simp at hi'
      · exact h
    have h3 : v = z.cells[i % z.cells.size]'(Nat.mod_lt _ h0) := by
      rw [← e, ← getElem!_pos, zero_get _ _ _ hi', getElem!_pos]
    rw [h3]
    exact h1 _ (Array.getElem_mem _))
  simp only [Nat.add_zero] at hst
  obtain ⟨m, rfl⟩ : ∃ m, n = m + 1 := ⟨n - 1, by omega⟩
  simp [Builtin.clear_, run_underlying ht, hv, hst]
end Go.Proofs.Ytehfommdgoffmaa.RowK
