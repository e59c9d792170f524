/- VpathMatch answers true and leaves its arguments as they were, for every graph, node and path. No condition beyond the form's own. -/
import Derived.Test.YtflpelbhalndcaaQVx11
import Derived.Test.YtflpelbhalndcaaQVSup5
import Derived.Test.YtflpelbhalndcaaQVr
import Derived.Test.YtflpelbhalndcaaRows
import Derived.WalkKit
import Derived.ProofKit
import Derived.OpenShut
import Derived.ChangeOld
import Derived.Below
import Derived.Lib.SmallJoins
import Derived.SizedLaws
namespace Go.Proofs.Ytflpelbhalndcaa.rowVpathMatch
open Go.ChangeShapes Go.WideShapes Go.ChangeAt Go.RowKit Go.Joins Go.Proofs.Ytflpelbhalndcaa.QV Go.Proofs.YtflpelbhalndcaaW.PrintWords
set_option linter.unusedVariables false
set_option linter.unusedSimpArgs false
theorem own : ownKnob Try.prog.godebug = none := by kernel_rfl
theorem laidOut : laidOutB Try.prog = true := by kernel_rfl
theorem wfs {H : Type} {x : List S35 × List S32 × Int} {d : DataW H} (q : Q25 x d) : (x.1.all fun y => (Lit.int .i64 y.f0).wf) = true := by
  obtain ⟨p0, p1, p2, rfl, q0, _, _⟩ := q
  rw [List.all_eq_true]
  intro a ha
  obtain ⟨i, hi, e⟩ := List.getElem_of_mem ha
  rcases q0 with ⟨_, e0⟩ | ⟨es, sp, _, hl, hq⟩
  · rw [e0] at hi; simp at hi
  · obtain ⟨r0, r1, r2, _, w0, _, _⟩ := hq i a (es[i]) (by rw [List.getElem?_eq_getElem hi, e]) (List.getElem?_eq_getElem (by omega))
    exact w0.2
set_option maxRecDepth 100000 in
theorem contract (H : Type) (enc : TypeId × Value → H) (W : World) (base : Nat) (args : Array Value) (ds gs : List (DataW H)) (before : List MemPlace)
    (hval0 : ∀ (j : Nat) t v, Try.f3.params[j]? = some t → args[j]? = some v → Value.okWide Try.prog W .any base t v)
    (hW : DataW.Whole enc Try.prog Try.f3.params.toList Rows.vpathMatchSpec.vars false W args.toList ds gs before)
    (hwt : (DataW.weightsEach Try.prog (Try.f3.params.toList ++ Rows.vpathMatchSpec.plain.varTypes Try.prog) (ds ++ gs)).all (· ≤ reachBytes) = true)
    : Calls Try.prog 3 args W fun e W' => ∃ v, e = .returned v ∧ Rows.vpathMatchSpec.post enc Try.prog Try.f3 false true false false W args v W' := by
  have hval : ∀ (j : Nat) t v, Try.f3.params[j]? = some t → args[j]? = some v → Value.okWide Try.prog W .any base t v := hval0
  have hW' := hW
  obtain ⟨p, q, hA0, hV, rfl, hfz, hnd⟩ := hW
  have hA : DataW.TrodAll enc Try.prog W 0 (fun _ => true) true Try.f3.params.toList args.toList ds p := hA0
  have hwt' : ∀ (j : Nat) t d, Try.f3.params.toList[j]? = some t → ds[j]? = some d → ∀ n ∈ d.weights Try.prog t, n ≤ reachBytes := by
    intro j t d ht hd n hn
    have h1 := List.getElem?_eq_some_iff.1 ht
    have h2 := List.getElem?_eq_some_iff.1 hd
    have := List.all_eq_true.1 hwt _ (DataW.weights_mem_each (j := j) (by rw [List.getElem?_append_left h1.1]; exact ht) (by rw [List.getElem?_append_left h2.1]; exact hd) n hn)
    simpa using this
  rw [Try.params3] at hA hval hwt'
  obtain ⟨v0, vs0, d0, ds0, p0, q0, hargs, rfl, rfl, h0, r0⟩ := trodAll_cons hA
  obtain ⟨v1, vs1, d1, ds1, p1, q1, rfl, rfl, rfl, h1, r1⟩ := trodAll_cons r0
  obtain ⟨v2, vs2, d2, ds2, p2, q2, rfl, rfl, rfl, h2, r2⟩ := trodAll_cons r1
  obtain ⟨rfl, rfl, rfl⟩ := trodAll_nil r2
  obtain rfl : args = #[v0, v1, v2] := by cases args; simp_all
  obtain ⟨rfl, rfl⟩ := trodVars_none hV
  have k0 := h0
  have lt0 : ∀ x ∈ p0, x.block < W.heap.size := by obtain ⟨m, hm⟩ := k0; exact DataW.trod_lt m _ _ _ hm
  have hw0 := hwt' 0 _ _ rfl rfl
  have k1 := h1
  have lt1 : ∀ x ∈ p1, x.block < W.heap.size := by obtain ⟨m, hm⟩ := k1; exact DataW.trod_lt m _ _ _ hm
  have hw1 := hwt' 1 _ _ rfl rfl
  have k2 := h2
  have lt2 : ∀ x ∈ p2, x.block < W.heap.size := by obtain ⟨m, hm⟩ := k2; exact DataW.trod_lt m _ _ _ hm
  have hw2 := hwt' 2 _ _ rfl rfl
  clear hA0
  obtain ⟨cs0, rfl, _⟩ := okWide_struct Try.underlying25 (hval 0 25 v0 rfl rfl)
  obtain ⟨fu0, hf0⟩ := h0
  obtain ⟨x0, g0, q0⟩ := opens25 hf0
  obtain ⟨L0, hL0⟩ : ∃ L, (Value.agg cs0).cells.toList = L := ⟨_, rfl⟩
  rw [hL0] at g0
  clear hf0
  obtain ⟨_, _, rfl, ⟨Ax0_1, cx0_1, rfl, lex0_1, Cx0_1⟩, ⟨_, _, rfl, ⟨Ax0_2_1, cx0_2_1, rfl, lex0_2_1, Cx0_2_1⟩, rfl⟩⟩ := g0
  obtain rfl : cs0 = #[.slice Ax0_1 x0.1.length cx0_1, .slice Ax0_2_1 x0.2.1.length cx0_2_1, .int .i64 x0.2.2] := by apply Array.ext'; simpa [Value.cells] using hL0
  clear hL0
  obtain ⟨vn1, rfl⟩ := okWide_int Try.underlying3 (hval 1 3 v1 rfl rfl)
  obtain ⟨fu1, hf1⟩ := h1
  obtain ⟨x1, g1, q1⟩ := opens3 hf1
  obtain ⟨L1, hL1⟩ : ∃ L, (Value.int .i64 vn1).cells.toList = L := ⟨_, rfl⟩
  rw [hL1] at g1
  clear hf1
  obtain rfl : L1 = [.int .i64 x1] := g1
  obtain rfl : x1 = vn1 := by simpa [Value.cells, eq_comm] using hL1
  clear hL1
  obtain ⟨va2, vl2, vc2, rfl⟩ := okWide_slice Try.underlying26 (hval 2 26 v2 rfl rfl)
  obtain ⟨fu2, hf2⟩ := h2
  obtain ⟨x2, g2, q2⟩ := opens26 hf2
  obtain ⟨L2, hL2⟩ : ∃ L, (Value.slice va2 vl2 vc2).cells.toList = L := ⟨_, rfl⟩
  rw [hL2] at g2
  clear hf2
  obtain ⟨Ax2, cx2, rfl, lex2, Cx2⟩ := g2
  obtain ⟨rfl, rfl, rfl⟩ : Ax2 = va2 ∧ vl2 = x2.length ∧ cx2 = vc2 := by simpa [Value.cells, eq_comm] using hL2
  clear hL2
  clear hval0 hval
  obtain ⟨k, hk⟩ := pure_VpathMatch (x0.1) (x0.2.1) (x0.2.2) x1 x2 (wfs q0)
  refine (dataflowlaw28_VpathMatch.calls_true k Ax0_1 cx0_1 (x0.1) Ax0_2_1 cx0_2_1 (x0.2.1) (x0.2.2) x1 Ax2 cx2 x2 W Cx0_1 lex0_1 Cx0_2_1 lex0_2_1 Cx2 lex2 hk).mono fun e W' ⟨he, bel⟩ => ?_
  subst he
  exact ⟨_, rfl, _, _, _, [], _, [], hW', trodAll_mk1 (shut_bool Try.underlying4 _), (trodAll_cons_mk (Below.trod laidOut (by kernel_rfl) (of_decide_eq_true (by kernel_rfl)) k0 bel lt0) (trodAll_cons_mk (Below.trod laidOut (by kernel_rfl) (of_decide_eq_true (by kernel_rfl)) k1 bel lt1) (trodAll_cons_mk (Below.trod laidOut (by kernel_rfl) (of_decide_eq_true (by kernel_rfl)) k2 bel lt2) trodAll_mk0))), rfl, bel.frame _, fun h => by cases h⟩
set_option maxRecDepth 100000 in
theorem lifted (os : Os) (started : os.Started) (H : Type) (enc : TypeId × Value → H) :
    ReturnsInHanded {} Try.checked os 3 .any (Rows.vpathMatchSpec.pre6 enc Try.prog Try.f3 Rows.vpathMatchRow.domain false) (Rows.vpathMatchSpec.post enc Try.prog Try.f3 false true false false) := by
  refine returnsInHanded_of_change_sized (C := Try.checked) own started (by kernel_rfl) Try.func3
    (ChangeSpec.witness6 (enc := enc) (C := Try.checked) false ⟨#[], #[.agg #[.slice none 0 0, .slice none 0 0, .int .i64 0], .int .i64 0, .slice none 0 0], []⟩ 8 (by kernel_rfl) (by kernel_rfl) (by kernel_rfl) (by kernel_rfl)) ?_
  intro W base args ds gs before hval hW _ hk _
  exact contract H enc W base args ds gs before hval hW hk
theorem proved : Rows.VpathMatchSaid :=
  OpenClaim.holds_of_wide 3 Try.f3 rfl rfl rfl rfl rfl rfl rfl ⟨rfl, rfl, rfl, rfl, rfl⟩ rfl rfl rfl rfl rfl (by kernel_rfl) Try.func3 (by kernel_rfl)
    (of_decide_eq_true (by kernel_rfl)) (by unfold Func.isWrapper; first | (rw [if_pos (by decide +kernel)]; kernel_rfl) | (rw [if_neg (by decide +kernel)]; exact ⟨rfl, rfl⟩))
    (fun os started H enc _ => lifted os started H enc)
#print axioms proved
end Go.Proofs.Ytflpelbhalndcaa.rowVpathMatch
