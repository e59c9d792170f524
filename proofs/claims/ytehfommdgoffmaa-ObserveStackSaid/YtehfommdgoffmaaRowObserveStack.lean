/- ObserveStack answers true and leaves its arguments as they were, for every record and step. No condition beyond the form's own. -/
import Derived.Test.YtehfommdgoffmaaQObsStackPure
import Derived.Test.YtehfommdgoffmaaQObsr
import Derived.Test.YtehfommdgoffmaaRows
import Derived.WalkKit
import Derived.ProofKit
import Derived.OpenShut
import Derived.ChangeOld
import Derived.Below
import Derived.Lib.SmallJoins
import Derived.SizedLaws
namespace Go.Proofs.Ytehfommdgoffmaa.rowObserveStack
open Go.ChangeShapes Go.WideShapes Go.ChangeAt Go.RowKit Go.Joins Go.Proofs.Ytehfommdgoffmaa.QObs Go.Proofs.YtehfommdgoffmaaW.PrintWords
set_option linter.unusedVariables false
set_option linter.unusedSimpArgs false
theorem own : ownKnob Try.prog.godebug = none := by kernel_rfl
theorem laidOut : laidOutB Try.prog = true := by kernel_rfl
theorem short {H : Type} {x : Int × List S50} {d : DataW H} (q : Q24 x d) (h : ∀ n ∈ d.weights Try.prog 24, n ≤ reachBytes) : x.2.length < 8796093022208 := by
  obtain ⟨p0, p1, rfl, _, q1⟩ := q
  rcases q1 with ⟨rfl, e⟩ | ⟨es, sp, rfl, e, _⟩
  · simp [e]
  · have hb : Try.prog.bytesOf 50 = 56 := by kernel_rfl
    have h1 := h ((es.length + sp.length) * Try.prog.bytesOf 50) (by simp [DataW.weights, Try.underlying24, Try.underlying22, DataW.weightsEach])
    have h2 := reachBytes_lt
    rw [hb] at h1
    omega
set_option maxRecDepth 100000 in
theorem contract (H : Type) (enc : TypeId × Value → H) (W : World) (base : Nat) (args : Array Value) (ds gs : List (DataW H)) (before : List MemPlace)
    (hval0 : ∀ (j : Nat) t v, Try.f5.params[j]? = some t → args[j]? = some v → Value.okWide Try.prog W .any base t v)
    (hW : DataW.Whole enc Try.prog Try.f5.params.toList Rows.observeStackSpec.vars false W args.toList ds gs before)
    (hwt : (DataW.weightsEach Try.prog (Try.f5.params.toList ++ Rows.observeStackSpec.plain.varTypes Try.prog) (ds ++ gs)).all (· ≤ reachBytes) = true)
    : Calls Try.prog 5 args W fun e W' => ∃ v, e = .returned v ∧ Rows.observeStackSpec.post enc Try.prog Try.f5 false true false false W args v W' := by
  have hval : ∀ (j : Nat) t v, Try.f5.params[j]? = some t → args[j]? = some v → Value.okWide Try.prog W .any base t v := hval0
  have hW' := hW
  obtain ⟨p, q, hA0, hV, rfl, hfz, hnd⟩ := hW
  have hA : DataW.TrodAll enc Try.prog W 0 (fun _ => true) true Try.f5.params.toList args.toList ds p := hA0
  have hwt' : ∀ (j : Nat) t d, Try.f5.params.toList[j]? = some t → ds[j]? = some d → ∀ n ∈ d.weights Try.prog t, n ≤ reachBytes := by
    intro j t d ht hd n hn
    have h1 := List.getElem?_eq_some_iff.1 ht
    have h2 := List.getElem?_eq_some_iff.1 hd
    have := List.all_eq_true.1 hwt _ (DataW.weights_mem_each (j := j) (by rw [List.getElem?_append_left h1.1]; exact ht) (by rw [List.getElem?_append_left h2.1]; exact hd) n hn)
    simpa using this
  rw [Try.params5] at hA hval hwt'
  obtain ⟨v0, vs0, d0, ds0, p0, q0, hargs, rfl, rfl, h0, r0⟩ := trodAll_cons hA
  obtain ⟨v1, vs1, d1, ds1, p1, q1, rfl, rfl, rfl, h1, r1⟩ := trodAll_cons r0
  obtain ⟨rfl, rfl, rfl⟩ := trodAll_nil r1
  obtain rfl : args = #[v0, v1] := by cases args; simp_all
  obtain ⟨rfl, rfl⟩ := trodVars_none hV
  have k0 := h0
  have lt0 : ∀ x ∈ p0, x.block < W.heap.size := by obtain ⟨m, hm⟩ := k0; exact DataW.trod_lt m _ _ _ hm
  have hw0 := hwt' 0 _ _ rfl rfl
  have k1 := h1
  have lt1 : ∀ x ∈ p1, x.block < W.heap.size := by obtain ⟨m, hm⟩ := k1; exact DataW.trod_lt m _ _ _ hm
  have hw1 := hwt' 1 _ _ rfl rfl
  clear hA0
  obtain ⟨cs0, rfl, _⟩ := okWide_struct Try.underlying24 (hval 0 24 v0 rfl rfl)
  obtain ⟨fu0, hf0⟩ := h0
  obtain ⟨x0, g0, q0⟩ := opens24 hf0
  obtain ⟨L0, hL0⟩ : ∃ L, (Value.agg cs0).cells.toList = L := ⟨_, rfl⟩
  rw [hL0] at g0
  clear hf0
  obtain ⟨_, _, rfl, rfl, ⟨Ax0_2, cx0_2, rfl, lex0_2, Cx0_2⟩⟩ := g0
  obtain rfl : cs0 = #[.int .i64 x0.1, .slice Ax0_2 x0.2.length cx0_2] := by apply Array.ext'; simpa [Value.cells] using hL0
  clear hL0
  obtain ⟨vn1, rfl⟩ := okWide_int Try.underlying3 (hval 1 3 v1 rfl rfl)
  obtain ⟨fu1, hf1⟩ := h1
  obtain ⟨x1, g1, q1⟩ := opens3 hf1
  obtain ⟨L1, hL1⟩ : ∃ L, (Value.int .i64 vn1).cells.toList = L := ⟨_, rfl⟩
  rw [hL1] at g1
  clear hf1
  obtain rfl : L1 = [.int .i64 x1] := g1
  obtain rfl : x1 = vn1 := by simpa [Value.cells, eq_comm] using hL1
  clear hL1
  clear hval0 hval
  obtain ⟨k, hk⟩ := pure_ObserveStack (x0.1) (x0.2) x1 (short q0 hw0)
  refine (dataflowlaw16_ObserveStack.calls k (x0.1) Ax0_2 cx0_2 (x0.2) x1 true W Cx0_2 lex0_2 hk).mono fun e W' ⟨he, bel⟩ => ?_
  subst he
  exact ⟨_, rfl, _, _, _, [], _, [], hW', trodAll_mk1 (shut_bool Try.underlying4 _), (trodAll_cons_mk (Below.trod laidOut (by kernel_rfl) (of_decide_eq_true (by kernel_rfl)) k0 bel lt0) (trodAll_cons_mk (Below.trod laidOut (by kernel_rfl) (of_decide_eq_true (by kernel_rfl)) k1 bel lt1) trodAll_mk0)), rfl, bel.frame _, fun h => by cases h⟩
set_option maxRecDepth 100000 in
theorem lifted (os : Os) (started : os.Started) (H : Type) (enc : TypeId × Value → H) :
    ReturnsInHanded {} Try.checked os 5 .any (Rows.observeStackSpec.pre6 enc Try.prog Try.f5 Rows.observeStackRow.domain false) (Rows.observeStackSpec.post enc Try.prog Try.f5 false true false false) := by
  refine returnsInHanded_of_change_sized (C := Try.checked) own started (by kernel_rfl) Try.func5
    (ChangeSpec.witness6 (enc := enc) (C := Try.checked) false ⟨#[], #[.agg #[.int .i64 0, .slice none 0 0], .int .i64 0], []⟩ 8 (by kernel_rfl) (by kernel_rfl) (by kernel_rfl) (by kernel_rfl)) ?_
  intro W base args ds gs before hval hW _ hk _
  exact contract H enc W base args ds gs before hval hW hk
theorem proved : Rows.ObserveStackSaid :=
  OpenClaim.holds_of_wide 5 Try.f5 rfl rfl rfl rfl rfl rfl rfl ⟨rfl, rfl, rfl, rfl, rfl⟩ rfl rfl rfl rfl rfl (by kernel_rfl) Try.func5 (by kernel_rfl)
    (of_decide_eq_true (by kernel_rfl)) (by unfold Func.isWrapper; first | (rw [if_pos (by decide +kernel)]; kernel_rfl) | (rw [if_neg (by decide +kernel)]; exact ⟨rfl, rfl⟩))
    (fun os started H enc _ => lifted os started H enc)
#print axioms proved
end Go.Proofs.Ytehfommdgoffmaa.rowObserveStack
