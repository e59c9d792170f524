/- ObservePoints answers true and leaves its argument as it was, for every record of bulk at most 1048576 (values and letters together). -/
import Derived.Test.YtehfommdgoffmaaQObsPointsPure
import Derived.Test.YtehfommdgoffmaaQObsr
import Derived.Test.YtehfommdgoffmaaRows
import Derived.WalkKit
import Derived.ProofKit
import Derived.OpenShut
import Derived.ChangeOld
import Derived.Below
import Derived.Lib.SmallJoins
import Derived.SizedLaws
import Derived.JoinedCond
namespace Go.Proofs.Ytehfommdgoffmaa.rowObservePointsUpto
open Go.ChangeShapes Go.WideShapes Go.ChangeAt Go.RowKit Go.Joins Go.Proofs.Ytehfommdgoffmaa.QObs Go.Proofs.YtehfommdgoffmaaW.PrintWords
set_option linter.unusedVariables false
set_option linter.unusedSimpArgs false
theorem own : ownKnob Try.prog.godebug = none := by kernel_rfl
theorem laidOut : laidOutB Try.prog = true := by kernel_rfl
theorem one_le {H : Type} (d : DataW H) : 1 ≤ Rows.uptoBulk d := by
  cases d with
  | lit l => cases l <;> simp [Rows.uptoBulk]
  | nil => simp [Rows.uptoBulk]
  | ptr d => simp [Rows.uptoBulk]
  | slice elems spare => simp [Rows.uptoBulk]
  | agg parts => simp [Rows.uptoBulk]
  | iface t d => simp [Rows.uptoBulk]
  | map entries => simp [Rows.uptoBulk]
  | held h => simp [Rows.uptoBulk]
theorem length_le {H : Type} (l : List (DataW H)) : l.length ≤ Rows.uptoBulkAll l := by
  induction l with
  | nil => simp [Rows.uptoBulkAll]
  | cons x r ih => have := one_le x; simp only [Rows.uptoBulkAll, List.length_cons]; omega
theorem vals_le {H : Type} {x : S50} {d : DataW H} (q : Q50 x d) : x.f4.length ≤ Rows.uptoBulk d := by
  obtain ⟨p0, p1, p2, p3, p4, rfl, _, _, _, _, q4⟩ := q
  have h4 : x.f4.length ≤ Rows.uptoBulk p4 := by
    rcases q4 with ⟨rfl, e⟩ | ⟨es, sp, rfl, e, _⟩
    · simp [e]
    · have := length_le es
      simp only [Rows.uptoBulk]; omega
  simp only [Rows.uptoBulk, Rows.uptoBulkAll]
  omega
theorem all_le {H : Type} : ∀ (xs : List S50) (es : List (DataW H)), xs.length = es.length → (∀ (i : Nat) a e, xs[i]? = some a → es[i]? = some e → Q50 a e) → total xs ≤ Rows.uptoBulkAll es
  | [], _, _, _ => by simp [total]
  | x :: xs, [], h, _ => by simp at h
  | x :: xs, e :: es, h, hq => by
    have h1 := vals_le (hq 0 x e rfl rfl)
    have h2 := all_le xs es (by simpa using h) (fun i a e ha he => hq (i + 1) a e (by simpa using ha) (by simpa using he))
    rw [total_cons]
    simp only [Rows.uptoBulkAll]
    omega
theorem short {H : Type} {x : Int × List S50} {d : DataW H} (q : Q24 x d) {ds : List (DataW H)} (hbk : Rows.uptoSmall H (d :: ds) = true) : total x.2 ≤ 1048576 ∧ x.2.length ≤ 1048576 := by
  have h : Rows.uptoBulkAll (d :: ds) ≤ 1048576 := of_decide_eq_true hbk
  obtain ⟨p0, p1, rfl, _, q1⟩ := q
  simp only [Rows.uptoBulkAll, Rows.uptoBulk] at h
  rcases q1 with ⟨rfl, e⟩ | ⟨es, sp, rfl, e, hq⟩
  · simp [e, total]
  · have h1 := all_le x.2 es e hq
    have h2 := length_le es
    simp only [Rows.uptoBulk] at h
    omega
set_option maxRecDepth 100000 in
theorem contract (H : Type) (enc : TypeId × Value → H) (W : World) (base : Nat) (args : Array Value) (ds gs : List (DataW H)) (before : List MemPlace)
    (hval0 : ∀ (j : Nat) t v, Try.f3.params[j]? = some t → args[j]? = some v → Value.okWide Try.prog W .any base t v)
    (hW : DataW.Whole enc Try.prog Try.f3.params.toList Rows.observePointsSpec.vars false W args.toList ds gs before)
    (hbk : Rows.uptoSmall H (ds ++ gs) = true)
    : Calls Try.prog 3 args W fun e W' => ∃ v, e = .returned v ∧ Rows.observePointsSpec.post enc Try.prog Try.f3 false true false false W args v W' := by
  have hval : ∀ (j : Nat) t v, Try.f3.params[j]? = some t → args[j]? = some v → Value.okWide Try.prog W .any base t v := hval0
  have hW' := hW
  obtain ⟨p, q, hA0, hV, rfl, hfz, hnd⟩ := hW
  have hA : DataW.TrodAll enc Try.prog W 0 (fun _ => true) true Try.f3.params.toList args.toList ds p := hA0
  rw [Try.params3] at hA hval
  obtain ⟨v0, vs0, d0, ds0, p0, q0, hargs, rfl, rfl, h0, r0⟩ := trodAll_cons hA
  obtain ⟨rfl, rfl, rfl⟩ := trodAll_nil r0
  obtain rfl : args = #[v0] := by cases args; simp_all
  obtain ⟨rfl, rfl⟩ := trodVars_none hV
  have k0 := h0
  have lt0 : ∀ x ∈ p0, x.block < W.heap.size := by obtain ⟨m, hm⟩ := k0; exact DataW.trod_lt m _ _ _ hm
  clear hA0
  obtain ⟨cs0, rfl, _⟩ := okWide_struct Try.underlying24 (hval 0 24 v0 rfl rfl)
  obtain ⟨fu0, hf0⟩ := h0
  obtain ⟨x0, g0, q0⟩ := opens24 hf0
  obtain ⟨L0, hL0⟩ : ∃ L, (Value.agg cs0).cells.toList = L := ⟨_, rfl⟩
  rw [hL0] at g0
  clear hf0
  obtain ⟨_, _, rfl, rfl, ⟨Ax0_2, cx0_2, rfl, lex0_2, Cx0_2⟩⟩ := g0
  obtain rfl : cs0 = #[.int .i64 x0.1, .slice Ax0_2 x0.2.length cx0_2] := by apply Array.ext'; simpa [Value.cells] using hL0
  clear hL0
  clear hval0 hval
  obtain ⟨k, hk⟩ := pure_ObservePoints (x0.1) (x0.2) (short q0 hbk)
  refine (dataflowlaw16_ObservePoints.calls k (x0.1) Ax0_2 cx0_2 (x0.2) true W Cx0_2 lex0_2 hk).mono fun e W' ⟨he, bel⟩ => ?_
  subst he
  exact ⟨_, rfl, _, _, _, [], _, [], hW', trodAll_mk1 (shut_bool Try.underlying4 _), (trodAll_cons_mk (Below.trod laidOut (by kernel_rfl) (of_decide_eq_true (by kernel_rfl)) k0 bel lt0) trodAll_mk0), rfl, bel.frame _, fun h => by cases h⟩
set_option maxRecDepth 100000 in
theorem lifted (os : Os) (started : os.Started) (H : Type) (enc : TypeId × Value → H) (F : Stop.Interp) :
    ReturnsInHanded {} Try.checked os 3 .any ((Rows.OpenSpec.upto Rows.observePointsSpec).pre6 enc Try.prog Try.f3 Rows.observePointsUptoRow.domain false) (((Rows.OpenSpec.upto Rows.observePointsSpec).at F).post enc Try.prog Try.f3 false true false false) := by
  refine returnsInHanded_of_cond (C := Try.checked) (s := Rows.OpenSpec.upto Rows.observePointsSpec) (k := Rows.uptoSmall) rfl own started (by kernel_rfl) Try.func3
    (OpenSpec.witness (enc := enc) (C := Try.checked) (s := Rows.OpenSpec.upto Rows.observePointsSpec) (k := Rows.uptoSmall) rfl false ⟨#[], #[.agg #[.int .i64 0, .slice none 0 0]], []⟩ 8 (by kernel_rfl) (by kernel_rfl) (by kernel_rfl)
      (x := ([.agg [.lit (.int .i64 0), .nil]], [], [])) (by kernel_rfl) rfl (by kernel_rfl)) ?_
  intro W base args ds gs before hval hW _ hk _
  exact contract H enc W base args ds gs before hval hW hk
theorem proved : Rows.ObservePointsUptoSaid :=
  OpenClaim.holds_of_cond 3 Try.f3 rfl rfl rfl rfl rfl rfl rfl ⟨rfl, rfl, rfl, rfl, rfl⟩ rfl rfl rfl rfl rfl (by kernel_rfl) Try.func3 (by kernel_rfl)
    (of_decide_eq_true (by kernel_rfl)) (by unfold Func.isWrapper; first | (rw [if_pos (by decide +kernel)]; kernel_rfl) | (rw [if_neg (by decide +kernel)]; exact ⟨rfl, rfl⟩))
    (fun os started H enc _ F => lifted os started H enc F)
#print axioms proved
end Go.Proofs.Ytehfommdgoffmaa.rowObservePointsUpto
