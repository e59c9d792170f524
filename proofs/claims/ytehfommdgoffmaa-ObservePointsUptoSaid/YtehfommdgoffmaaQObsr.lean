/- What the data of an argument says, in the print's words: for all data that can be read. No condition. -/
import Derived.Test.YtehfommdgoffmaaQObsx0
import Derived.Deep.Slices
import Derived.Deep.Fields
import Derived.ChangeSame
import Derived.ChangeArms
import Derived.Lib.SmallJoins
namespace Go.Proofs.Ytehfommdgoffmaa.QObs
open Go.RowKit Go.Proofs.YtehfommdgoffmaaW.PrintWords Go.Proofs.YtehfommdgoffmaaW.PrintLast Go.Proofs.YtehfommdgoffmaaW.PrintMore
open Go.ChangeShapes Go.WideShapes Go.Deep Go.Joins
set_option linter.unusedVariables false
set_option linter.unusedSimpArgs false
set_option linter.unusedSectionVars false
set_option maxRecDepth 4000
/-- Data of type t reads as a value of the kind d; Q: how the two are tied. -/
def Opens (t : TypeId) {α : Type} (d : Kd α) (Q : {H : Type} → α → DataW H → Prop) : Prop :=
  ∀ {H : Type} {enc : TypeId × Value → H} {w : World} {base : Nat} {spare : Nat → Bool} {held : Bool} {fuel : Nat} {cs : List Value} {x : DataW H × List MemPlace}, DataW.trod enc Try.prog w base spare held fuel t cs = some x → ∃ a, d.K w a cs ∧ Q a x.1
/-- A slice's elements, one by one; no element where it is nil. -/
def QS {H α : Type} (Q : α → DataW H → Prop) (xs : List α) (D : DataW H) : Prop :=
  (D = .nil ∧ xs = []) ∨ ∃ es sp, D = .slice es sp ∧ xs.length = es.length ∧ ∀ (i : Nat) a e, xs[i]? = some a → es[i]? = some e → Q a e
theorem opens_slice {t e : TypeId} {α : Type} {d : Kd α} {Q : {H : Type} → α → DataW H → Prop} (ht : Try.prog.underlying t = some (.slice e)) (hC : Try.prog.cellsOf e = d.sz) (h : Opens e d Q) : Opens t (Kd.slice e d) (fun {H} => QS (H := H) Q) := by
  intro H enc w base spare held fuel cs x hx
  rcases open_slice ht hx with ⟨rfl, rfl⟩ | ⟨a, len, cap, m, n, D, Pl, rfl, hb, hl, hm, hmm, rfl, hi⟩
  · exact ⟨[], ⟨none, 0, rfl, Nat.le_refl _, rfl, Nat.zero_le _, fun h => absurd h (Nat.lt_irrefl 0)⟩, .inl ⟨rfl, rfl⟩⟩
  · have hlm : len ≤ m := by rw [hmm]; split <;> omega
    have hex : ∀ i : Fin len, ∃ b : α, ∃ cs', w.cells? base (a.add (i.1 * Try.prog.cellsOf e)) (Try.prog.cellsOf e) = some cs' ∧ d.K w b cs' ∧ Q b (D i.1) := by
      intro i
      obtain ⟨cs', hc, ht'⟩ := hi i.1 (by have := i.2; omega)
      obtain ⟨b, hk, hq⟩ := h ht'
      exact ⟨b, cs', hc, hk, hq⟩
    let f : Fin len → α := fun i => (hex i).choose
    have hf : ∀ i : Fin len, ∃ cs', w.cells? base (a.add (i.1 * Try.prog.cellsOf e)) (Try.prog.cellsOf e) = some cs' ∧ d.K w (f i) cs' ∧ Q (f i) (D i.1) := fun i => (hex i).choose_spec
    refine ⟨List.ofFn f, ⟨some a, cap, by rw [List.length_ofFn], by rw [List.length_ofFn]; exact hl, rfl, by rw [List.length_ofFn]; have : maxLen = 9223372036854775807 := rfl; omega, fun _ => ⟨a, rfl, fun j p hj => ?_⟩⟩, .inr ⟨_, _, rfl, by simp, fun i b e' hb' he' => ?_⟩⟩
    · obtain ⟨hjl, rfl⟩ := List.getElem?_eq_some_iff.1 hj
      rw [List.length_ofFn] at hjl
      rw [List.getElem_ofFn]
      obtain ⟨cs', hc, hk, _⟩ := hf ⟨j, hjl⟩
      refine ⟨cs', d.K_len hk, hk, fun i u hu => ?_⟩
      obtain ⟨_, hcl, hat⟩ := World.cells?_some hc
      have hil : i < cs'.length := (List.getElem?_eq_some_iff.1 hu).1
      have := hat i (by omega)
      rw [hC, ← Go.Deep.add_add] at *
      rw [this, hu]
    · obtain ⟨hjl, rfl⟩ := List.getElem?_eq_some_iff.1 hb'
      rw [List.length_ofFn] at hjl
      rw [List.getElem_ofFn]
      obtain ⟨cs', hc, hk, hq⟩ := hf ⟨i, hjl⟩
      simp only [List.getElem?_map, List.getElem?_range hjl, Option.map_some, Option.some.injEq] at he'
      subst he'
      exact hq
def Q3 {H : Type} (a : Int) (D : DataW H) : Prop := D = .lit (.int .i64 a) ∧ (Lit.int .i64 a).wf = true
theorem opens3 : Opens 3 (Kd.int .i64) (fun {H} => Q3) := by
  intro H enc w base spare held fuel cs x h
  obtain ⟨n, rfl, rfl, hw⟩ := DataW.trod_int Try.underlying3 h
  exact ⟨n, rfl, rfl, hw⟩
def Q2 {H : Type} (a : Int) (D : DataW H) : Prop := D = .lit (.int .i64 a) ∧ (Lit.int .i64 a).wf = true
theorem opens2 : Opens 2 (Kd.int .i64) (fun {H} => Q2) := by
  intro H enc w base spare held fuel cs x h
  obtain ⟨n, rfl, rfl, hw⟩ := DataW.trod_int Try.underlying2 h
  exact ⟨n, rfl, rfl, hw⟩
theorem cells_2 : Try.prog.cellsOf 2 = 1 := by kernel_rfl
theorem cells_3 : Try.prog.cellsOf 3 = 1 := by kernel_rfl
def Q61 {H : Type} (x : S61) (D : DataW H) : Prop := ∃ p0 p1 p2 : DataW H, D = .agg [p0, p1, p2] ∧ Q3 x.f0 p0 ∧ Q2 x.f1 p1 ∧ Q3 x.f2 p2
theorem opens61 : Opens 61 k61 (fun {H} => Q61) := by
  intro H enc w base spare held fuel cs x h
  obtain ⟨xs, n, _, rfl, hl, hlen, hf⟩ := DataW.trod_struct Try.underlying61 h
  have hl' : cs.length = 3 := hl.trans (by kernel_rfl)
  match cs, hl' with
  | [c0, c1, c2], _ =>
  match xs, hlen with
  | [y0, y1, y2], _ =>
    obtain ⟨a0, g0, q0⟩ := opens3 (show DataW.trod enc Try.prog w base spare held n 3 [c0] = some y0 by simpa [cells_3] using hf 0 _ rfl)
    obtain ⟨a1, g1, q1⟩ := opens2 (show DataW.trod enc Try.prog w base spare held n 2 [c1] = some y1 by simpa [cells_2] using hf 1 _ rfl)
    obtain ⟨a2, g2, q2⟩ := opens3 (show DataW.trod enc Try.prog w base spare held n 3 [c2] = some y2 by simpa [cells_3] using hf 2 _ rfl)
    exact ⟨⟨a0, a1, a2⟩, ⟨[c0], [c1, c2], rfl, g0, ⟨[c1], [c2], rfl, g1, g2⟩⟩, y0.1, y1.1, y2.1, rfl, q0, q1, q2⟩
def Q48 {H : Type} (a : (List S61)) (D : DataW H) : Prop := QS (H := H) Q61 a D
theorem opens48 : Opens 48 (Kd.slice 61 k61) (fun {H} => Q48) := opens_slice Try.underlying48 (by kernel_rfl) opens61
theorem cells_48 : Try.prog.cellsOf 48 = 1 := by kernel_rfl
def Q50 {H : Type} (x : S50) (D : DataW H) : Prop := ∃ p0 p1 p2 p3 p4 : DataW H, D = .agg [p0, p1, p2, p3, p4] ∧ Q3 x.f0 p0 ∧ Q3 x.f1 p1 ∧ Q3 x.f2 p2 ∧ Q3 x.f3 p3 ∧ Q48 x.f4 p4
theorem opens50 : Opens 50 k50 (fun {H} => Q50) := by
  intro H enc w base spare held fuel cs x h
  obtain ⟨xs, n, _, rfl, hl, hlen, hf⟩ := DataW.trod_struct Try.underlying50 h
  have hl' : cs.length = 5 := hl.trans (by kernel_rfl)
  match cs, hl' with
  | [c0, c1, c2, c3, c4], _ =>
  match xs, hlen with
  | [y0, y1, y2, y3, y4], _ =>
    obtain ⟨a0, g0, q0⟩ := opens3 (show DataW.trod enc Try.prog w base spare held n 3 [c0] = some y0 by simpa [cells_3] using hf 0 _ rfl)
    obtain ⟨a1, g1, q1⟩ := opens3 (show DataW.trod enc Try.prog w base spare held n 3 [c1] = some y1 by simpa [cells_3] using hf 1 _ rfl)
    obtain ⟨a2, g2, q2⟩ := opens3 (show DataW.trod enc Try.prog w base spare held n 3 [c2] = some y2 by simpa [cells_3] using hf 2 _ rfl)
    obtain ⟨a3, g3, q3⟩ := opens3 (show DataW.trod enc Try.prog w base spare held n 3 [c3] = some y3 by simpa [cells_3] using hf 3 _ rfl)
    obtain ⟨a4, g4, q4⟩ := opens48 (show DataW.trod enc Try.prog w base spare held n 48 [c4] = some y4 by simpa [cells_48] using hf 4 _ rfl)
    exact ⟨⟨a0, a1, a2, a3, a4⟩, ⟨[c0], [c1, c2, c3, c4], rfl, g0, ⟨[c1], [c2, c3, c4], rfl, g1, ⟨[c2], [c3, c4], rfl, g2, ⟨[c3], [c4], rfl, g3, g4⟩⟩⟩⟩, y0.1, y1.1, y2.1, y3.1, y4.1, rfl, q0, q1, q2, q3, q4⟩
def Q22 {H : Type} (a : (List S50)) (D : DataW H) : Prop := QS (H := H) Q50 a D
theorem opens22 : Opens 22 (Kd.slice 50 k50) (fun {H} => Q22) := opens_slice Try.underlying22 (by kernel_rfl) opens50
theorem cells_22 : Try.prog.cellsOf 22 = 1 := by kernel_rfl
def Q24 {H : Type} (x : (Int × (List S50))) (D : DataW H) : Prop := ∃ p0 p1 : DataW H, D = .agg [p0, p1] ∧ Q3 x.1 p0 ∧ Q22 x.2 p1
theorem opens24 : Opens 24 (Kd.pair (Kd.int .i64) (Kd.slice 50 k50)) (fun {H} => Q24) := by
  intro H enc w base spare held fuel cs x h
  obtain ⟨xs, n, _, rfl, hl, hlen, hf⟩ := DataW.trod_struct Try.underlying24 h
  have hl' : cs.length = 2 := hl.trans (by kernel_rfl)
  match cs, hl' with
  | [c0, c1], _ =>
  match xs, hlen with
  | [y0, y1], _ =>
    obtain ⟨a0, g0, q0⟩ := opens3 (show DataW.trod enc Try.prog w base spare held n 3 [c0] = some y0 by simpa [cells_3] using hf 0 _ rfl)
    obtain ⟨a1, g1, q1⟩ := opens22 (show DataW.trod enc Try.prog w base spare held n 22 [c1] = some y1 by simpa [cells_22] using hf 1 _ rfl)
    exact ⟨(a0, a1), ⟨[c0], [c1], rfl, g0, g1⟩, y0.1, y1.1, rfl, q0, q1⟩
end Go.Proofs.Ytehfommdgoffmaa.QObs
