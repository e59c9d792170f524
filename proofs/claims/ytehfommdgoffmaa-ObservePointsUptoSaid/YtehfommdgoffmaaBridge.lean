/- A row of the print's words and the world of the shelf's sort: the one out of the other. For all rows. No condition. -/
import Derived.Test.YtehfommdgoffmaaWWords
import Derived.Test.YtehfommdgoffmaaWKept
import Derived.Test.YtehfommdgoffmaaWLast
import Derived.Test.YtehfommdgoffmaaWMore
import Derived.Shelf.SlSortCmp.WholeK
namespace Go.Proofs.Ytehfommdgoffmaa.Bridge
open Go.RowKit Go.Shelf Go.Lib Go.Sort Go.Proofs.YtehfommdgoffmaaW.PrintWords Go.Proofs.YtehfommdgoffmaaW.PrintLast Go.Proofs.YtehfommdgoffmaaW.PrintMore
set_option linter.unusedVariables false

theorem sort_heap {α : Type} [Inhabited α] (enc : α → List Value) (k : Nat) (w : World) (g m : Nat) (d' : Array α) (os : Array Obj) (i : Nat) (hi : i < w.heap.size) :
    (sortWorldK enc k w g 0 m d' os).heap[i]? = if i = g then (w.heap[g]?).map (onCells (putCells id 0 (flatK enc k d'))) else w.heap[i]? := by
  unfold sortWorldK grow putRowK putRow mapBlock Go.Sort.ahead
  simp only
  rw [Array.getElem?_append_left (by simpa using hi), Array.getElem?_modify]
  by_cases h : g = i
  · subst h; simp
  · simp [h, Ne.symm h]

theorem sort_size {α : Type} [Inhabited α] (enc : α → List Value) (k : Nat) (w : World) (g m : Nat) (d' : Array α) (os : Array Obj) : w.heap.size ≤ (sortWorldK enc k w g 0 m d' os).heap.size := by
  unfold sortWorldK grow putRowK putRow mapBlock Go.Sort.ahead
  simp

section
variable {α : Type} [Inhabited α] {d : Kd α} {enc : α → List Value}
theorem R_holds (hsz : 0 < d.sz) (henc : ∀ w base ok x cs, d.M w base ok x cs → cs = enc x) {e : Nat} {w : World} {base : Nat} {ok : Nat → Prop} {g n cap : Nat} {xs : List α} (h : Kd.R d e w base ok (.slice (some ⟨g, 0, none⟩) n cap) xs) :
    n = xs.length ∧ g < w.heap.size ∧ base ≤ g ∧ ok g ∧ HoldsK enc d.sz w g 0 xs.toArray := by
  obtain ⟨h0, inner, ⟨hl, ho⟩, hr⟩ := h
  rcases ho with ⟨e1, _⟩ | ⟨g', cap', cur, e2, hb, hh, hn, hc, hs, ht⟩
  · cases e1
  · injection e2 with e3 e4 e5
    injection e3 with e3
    injection e3 with e3
    subst e3 e4 e5
    have hg : g < w.heap.size := (Array.getElem?_eq_some_iff.1 hh).1
    refine ⟨rfl, hg, hb, h0 g rfl, fun j hj => ?_⟩
    have hj' : j < xs.length * d.sz := by simpa using hj
    have hq : j / d.sz < xs.length := Nat.div_lt_of_lt_mul (by rw [Nat.mul_comm]; exact hj')
    have hm : j % d.sz < d.sz := Nat.mod_lt _ hsz
    have hdm : j / d.sz * d.sz + j % d.sz = j := by rw [Nat.mul_comm]; exact Nat.div_add_mod j d.sz
    have hM := henc _ _ _ _ _ (hr.2 (j / d.sz) _ (List.getElem?_eq_getElem hq))
    have hcj : cur[j]? = inner[j]? := by
      rw [← ht, List.getElem?_take, if_pos hj', Array.getElem?_toList]
    have hin : inner[j]? = (enc xs[j / d.sz])[j % d.sz]? := by
      rw [← hM, List.getElem?_take, if_pos hm, List.getElem?_drop, hdm]
    have hjin : j < inner.length := by rw [hl]; exact hj'
    refine ⟨?_, ?_⟩
    · unfold World.cell?
      simp only [hh, Option.isSome_none, Bool.false_eq_true, if_false, Nat.zero_add, id]
      rw [hcj, get_flatK _ _ _ _ (by simpa using hj')]
      have e6 : xs.toArray[j / d.sz]! = xs[j / d.sz] := by rw [getElem!_pos xs.toArray (j / d.sz) (by simpa using hq)]; simp
      rw [e6]
      have h7 : j % d.sz < (enc xs[j / d.sz]).length := by
        rw [List.getElem?_eq_getElem hjin] at hin
        exact (List.getElem?_eq_some_iff.1 hin.symm).1
      rw [hin, getElem!_pos (enc xs[j / d.sz]) (j % d.sz) h7, List.getElem?_eq_getElem h7]
    · unfold World.frozen?
      simp [hh]

theorem R_of_sort (hsz : 0 < d.sz) (hk : ∀ x, (enc x).length = d.sz) (hmk : ∀ w base ok x, d.M w base ok x (enc x)) {e : Nat} {w : World} {base : Nat} {ok : Nat → Prop} {g n cap : Nat} {xs : List α}
    (h : Kd.R d e w base ok (.slice (some ⟨g, 0, none⟩) n cap) xs) (d' : Array α) (hs' : d'.size = xs.length) (m : Nat) (os : Array Obj) :
    Kd.R d e (sortWorldK enc d.sz w g 0 m d' os) base ok (.slice (some ⟨g, 0, none⟩) n cap) d'.toList := by
  obtain ⟨h0, inner, ⟨hl, ho⟩, hr⟩ := h
  rcases ho with ⟨e1, _⟩ | ⟨g', cap', cur, e2, hb, hh, hn, hc, hs, ht⟩
  · cases e1
  · injection e2 with e3 e4 e5
    injection e3 with e3
    injection e3 with e3
    subst e3 e4 e5
    have hg : g < w.heap.size := (Array.getElem?_eq_some_iff.1 hh).1
    have hnc : xs.length * d.sz ≤ cap * d.sz := Nat.mul_le_mul_right _ hn
    have hh' : (sortWorldK enc d.sz w g 0 m d' os).heap[g]? = some (.cells (putCells id 0 (flatK enc d.sz d') cur) e (0, 0)) := by
      rw [sort_heap _ _ _ _ _ _ _ _ hg, if_pos rfl, hh]; rfl
    have hps : (putCells id 0 (flatK enc d.sz d') cur).size = cap * d.sz := by rw [← hs]; simp [putCells]
    have hL : d'.toList.length = xs.length := by simpa using hs'
    refine ⟨h0, (putCells id 0 (flatK enc d.sz d') cur).toList.take (d'.size * d.sz), ⟨?_, .inr ⟨g, cap, _, by rw [hL], hb, hh', by rw [hL]; exact hn, hc, hps, by rw [hL, hs']⟩⟩, ?_, ?_⟩
    · rw [List.length_take, Array.length_toList (xs := putCells id 0 (flatK enc d.sz d') cur), hps, hL, hs']; omega
    · rw [List.length_take, Array.length_toList (xs := putCells id 0 (flatK enc d.sz d') cur), hps, hL, hs']; omega
    · intro j p hj
      have hj1 : j < d'.size := by simpa using (List.getElem?_eq_some_iff.1 hj).1
      have hp : p = d'[j]! := by
        rw [getElem!_pos d' j hj1]
        have := (List.getElem?_eq_some_iff.1 hj).2
        rw [← this]; simp
      have : (List.take d.sz (List.drop (j * d.sz) (List.take (d'.size * d.sz) (putCells id 0 (flatK enc d.sz d') cur).toList))) = enc p := by
        apply List.ext_getElem?
        intro i
        by_cases hi : i < d.sz
        · have hji : j * d.sz + i < d'.size * d.sz := by
            have : (j + 1) * d.sz ≤ d'.size * d.sz := Nat.mul_le_mul_right _ hj1
            rw [Nat.add_mul] at this
            omega
          rw [List.getElem?_take, if_pos hi, List.getElem?_drop, List.getElem?_take, if_pos hji, Array.getElem?_toList]
          have hcap : j * d.sz + i < cap * d.sz := by rw [hs'] at hji; omega
          rw [Array.getElem?_eq_getElem (by rw [hps]; exact hcap)]
          have h8 : (putCells id 0 (flatK enc d.sz d') cur)[j * d.sz + i]'(by rw [hps]; exact hcap) = (flatK enc d.sz d')[j * d.sz + i]! := by
            simp only [putCells, Array.getElem_mapIdx, id]
            rw [if_pos (by simp; omega)]
            simp
          rw [h8, get_flatK _ _ _ _ hji, hp]
          have e1 : (j * d.sz + i) / d.sz = j := by rw [Nat.mul_comm, Nat.mul_add_div hsz, Nat.div_eq_of_lt hi, Nat.add_zero]
          have e2 : (j * d.sz + i) % d.sz = i := by rw [Nat.mul_comm, Nat.mul_add_mod, Nat.mod_eq_of_lt hi]
          rw [e1, e2, getElem!_pos (enc d'[j]!) i (by rw [hk]; exact hi), List.getElem?_eq_getElem (by rw [hk]; exact hi)]
        · rw [List.getElem?_take, if_neg hi, List.getElem?_eq_none (by rw [hk]; omega)]
      rw [this]
      exact hmk _ _ _ _

theorem below_sort {w0 w : World} (hB : Below w0.heap.size w0 w) {g : Nat} (hg : w0.heap.size ≤ g) (k m : Nat) (d' : Array α) (os : Array Obj) : Below w0.heap.size w0 (sortWorldK enc k w g 0 m d' os) := by
  refine ⟨?_, ?_, ?_, Nat.le_trans hB.size (sort_size _ _ _ _ _ _ _), fun i hi => ?_⟩
  · exact hB.os
  · exact hB.tape
  · exact hB.output
  · rw [sort_heap _ _ _ _ _ _ _ _ (Nat.lt_of_lt_of_le hi hB.size), if_neg (by omega)]
    exact hB.block i hi

theorem kept_sort {w : World} {g : Nat} {S : Nat → Prop} (hS : S g) (k m : Nat) (d' : Array α) (os : Array Obj) : Kept w (sortWorldK enc k w g 0 m d' os) S :=
  ⟨sort_size _ _ _ _ _ _ _, fun i hi hn => by rw [sort_heap _ _ _ _ _ _ _ _ hi, if_neg (by rintro rfl; exact hn hS)]⟩
end

theorem put_heap {α : Type} [Inhabited α] (enc : α → List Value) (k : Nat) (w : World) (g m : Nat) (d' : Array α) (i : Nat) (hi : i < w.heap.size) :
    (putRowK enc k (Sort.ahead w m) g 0 d').heap[i]? = if i = g then (w.heap[g]?).map (onCells (putCells id 0 (flatK enc k d'))) else w.heap[i]? := by
  unfold putRowK putRow mapBlock Go.Sort.ahead
  simp only
  rw [Array.getElem?_modify]
  by_cases h : g = i
  · subst h; simp
  · simp [h, Ne.symm h]
theorem put_size {α : Type} [Inhabited α] (enc : α → List Value) (k : Nat) (w : World) (g m : Nat) (d' : Array α) : (putRowK enc k (Sort.ahead w m) g 0 d').heap.size = w.heap.size := by
  unfold putRowK putRow mapBlock Go.Sort.ahead
  simp

section
variable {α : Type} [Inhabited α] {d : Kd α} {enc : α → List Value}
/-- A row is laid anew over its block: the slice of its first elements reads as the new row's first elements. -/
theorem R_of_put (hsz : 0 < d.sz) (hk : ∀ x, (enc x).length = d.sz) (hmk : ∀ w base ok x, d.M w base ok x (enc x)) {e : Nat} {w w' : World} {base : Nat} {ok : Nat → Prop} {g n cap : Nat} {xs : List α}
    (h : Kd.R d e w base ok (.slice (some ⟨g, 0, none⟩) n cap) xs) (d' : Array α) (hs' : d'.size = xs.length) (q m : Nat) (hm : m ≤ xs.length) :
    Kd.R d e (putRowK enc d.sz (Sort.ahead w q) g 0 d') base ok (.slice (some ⟨g, 0, none⟩) m cap) (d'.toList.take m) := by
  obtain ⟨h0, inner, ⟨hl, ho⟩, hr⟩ := h
  rcases ho with ⟨e1, _⟩ | ⟨g', cap', cur, e2, hb, hh, hn, hc, hs, ht⟩
  · cases e1
  · injection e2 with e3 e4 e5
    injection e3 with e3
    injection e3 with e3
    subst e3 e4 e5
    have hg : g < w.heap.size := (Array.getElem?_eq_some_iff.1 hh).1
    have hnc : xs.length * d.sz ≤ cap * d.sz := Nat.mul_le_mul_right _ hn
    have hmn : m * d.sz ≤ xs.length * d.sz := Nat.mul_le_mul_right _ hm
    have hh' : (putRowK enc d.sz (Sort.ahead w q) g 0 d').heap[g]? = some (.cells (putCells id 0 (flatK enc d.sz d') cur) e (0, 0)) := by
      rw [put_heap _ _ _ _ _ _ _ hg, if_pos rfl, hh]; rfl
    have hps : (putCells id 0 (flatK enc d.sz d') cur).size = cap * d.sz := by rw [← hs]; simp [putCells]
    have hL : (d'.toList.take m).length = m := by rw [List.length_take, Array.length_toList, hs']; omega
    refine ⟨h0, (putCells id 0 (flatK enc d.sz d') cur).toList.take (m * d.sz), ⟨?_, .inr ⟨g, cap, _, by rw [hL], hb, hh', by rw [hL]; omega, hc, hps, by rw [hL]⟩⟩, ?_, ?_⟩
    · rw [List.length_take, Array.length_toList (xs := putCells id 0 (flatK enc d.sz d') cur), hps, hL]; omega
    · rw [List.length_take, Array.length_toList (xs := putCells id 0 (flatK enc d.sz d') cur), hps, hL]; omega
    · intro j p hj
      have hj0 : j < m := by have := (List.getElem?_eq_some_iff.1 hj).1; rw [hL] at this; exact this
      have hj1 : j < d'.size := by omega
      have hp : p = d'[j]! := by
        rw [getElem!_pos d' j hj1]
        have := (List.getElem?_eq_some_iff.1 hj).2
        rw [← this]; simp
      have : (List.take d.sz (List.drop (j * d.sz) (List.take (m * d.sz) (putCells id 0 (flatK enc d.sz d') cur).toList))) = enc p := by
        apply List.ext_getElem?
        intro i
        by_cases hi : i < d.sz
        · have hji0 : j * d.sz + i < m * d.sz := by
            have : (j + 1) * d.sz ≤ m * d.sz := Nat.mul_le_mul_right _ hj0
            rw [Nat.add_mul] at this
            omega
          have hji : j * d.sz + i < d'.size * d.sz := by rw [hs']; omega
          rw [List.getElem?_take, if_pos hi, List.getElem?_drop, List.getElem?_take, if_pos hji0, Array.getElem?_toList]
          have hcap : j * d.sz + i < cap * d.sz := by rw [hs'] at hji; omega
          rw [Array.getElem?_eq_getElem (by rw [hps]; exact hcap)]
          have h8 : (putCells id 0 (flatK enc d.sz d') cur)[j * d.sz + i]'(by rw [hps]; exact hcap) = (flatK enc d.sz d')[j * d.sz + i]! := by
            simp only [putCells, Array.getElem_mapIdx, id]
            rw [if_pos (by simp; omega)]
            simp
          rw [h8, get_flatK _ _ _ _ hji, hp]
          have e1 : (j * d.sz + i) / d.sz = j := by rw [Nat.mul_comm, Nat.mul_add_div hsz, Nat.div_eq_of_lt hi, Nat.add_zero]
          have e2 : (j * d.sz + i) % d.sz = i := by rw [Nat.mul_comm, Nat.mul_add_mod, Nat.mod_eq_of_lt hi]
          rw [e1, e2, getElem!_pos (enc d'[j]!) i (by rw [hk]; exact hi), List.getElem?_eq_getElem (by rw [hk]; exact hi)]
        · rw [List.getElem?_take, if_neg hi, List.getElem?_eq_none (by rw [hk]; omega)]
      rw [this]
      exact hmk _ _ _ _

theorem below_put {w0 w : World} (hB : Below w0.heap.size w0 w) {g : Nat} (hg : w0.heap.size ≤ g) (k m : Nat) (d' : Array α) : Below w0.heap.size w0 (putRowK enc k (Sort.ahead w m) g 0 d') := by
  refine ⟨?_, ?_, ?_, Nat.le_trans hB.size (Nat.le_of_eq (put_size _ _ _ _ _ _).symm), fun i hi => ?_⟩
  · exact hB.os
  · exact hB.tape
  · exact hB.output
  · rw [put_heap _ _ _ _ _ _ _ (Nat.lt_of_lt_of_le hi hB.size), if_neg (by omega)]
    exact hB.block i hi

theorem kept_put {w : World} {g : Nat} {S : Nat → Prop} (hS : S g) (k m : Nat) (d' : Array α) : Kept w (putRowK enc k (Sort.ahead w m) g 0 d') S :=
  ⟨Nat.le_of_eq (put_size _ _ _ _ _ _).symm, fun i hi hn => by rw [put_heap _ _ _ _ _ _ _ hi, if_neg (by rintro rfl; exact hn hS)]⟩
end
end Go.Proofs.Ytehfommdgoffmaa.Bridge
