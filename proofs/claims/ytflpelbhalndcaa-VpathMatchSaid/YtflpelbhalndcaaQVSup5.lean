/- VpathMatch's law over the printed functions: for every graph whose nodes' Func are ints, every node and path. -/
import Derived.Test.YtflpelbhalndcaaQVSup4
import Derived.Test.YtflpelbhalndcaaQVld
namespace Go.Proofs.Ytflpelbhalndcaa.QV
open Go.RowKit Go.Proofs.YtflpelbhalndcaaW.PrintWords Go.Proofs.YtflpelbhalndcaaW.PrintLast Go.Proofs.YtflpelbhalndcaaW.PrintMore
open Go.Proofs.Ytflpelbhalndcaa.Cmp
set_option linter.unusedVariables false
set_option linter.unusedSimpArgs false

/-- Where the program's path leads, the error of the graph first. -/
def fo (N : List S35) (E : List S32) (e src : Int) (path : List Int) : Int × List Int × Int :=
  if e = 0 then (if src < 0 ∨ src ≥ N.length then (0, [], 4) else folL E path src []) else (0, [], e)

theorem follow_ok (N : List S35) (E : List S32) (m src e : Int) (hc : ∀ k, 400000 ≤ k → super_Check.f k N E m = some e) (path : List Int) (hp : path.length ≤ 4096) (k : Nat) (hk : 410000 ≤ k) :
    vpath_follow.f k N E m src path = some (fo N E e src path) := by
  unfold vpath_follow.f vpath_begin.f fo
  rw [hc k (by omega)]
  simp only [Option.bind_some]
  by_cases h : e = 0
  · rw [if_pos h, if_pos h]
    by_cases h1 : src < 0 ∨ src ≥ N.length
    · rw [if_pos h1]
      by_cases h2 : src < 0
      · rw [if_pos h2]; rfl
      · rw [if_neg h2, if_pos (by omega)]; rfl
    · rw [if_neg h1, if_neg (by omega), if_neg (by omega)]
      simp only [Option.bind_some, if_true]
      rw [if_neg (by omega)]
      have := fol_loop N E m path hp path.length 0 src [] k (by omega) (by simp; omega) (by omega)
      simpa using this
  · rw [if_neg h, if_neg h]
    simp only [Option.bind_some]
    rw [if_neg h]

theorem equal_loop (x : List Int) : ∀ (t i k : Nat), i + t = x.length → t < k → x.length < 4611686018427387904 → dataflowref27_Equal.l0 k x x (i : Int) = some true := by
  intro t
  induction t with
  | zero =>
    intro i k h hk hl
    obtain ⟨k, rfl⟩ : ∃ k', k = k' + 1 := ⟨k - 1, by omega⟩
    rw [dataflowref27_Equal.l0, if_neg (by omega)]
  | succ t ih =>
    intro i k h hk hl
    obtain ⟨k, rfl⟩ : ∃ k', k = k' + 1 := ⟨k - 1, by omega⟩
    rw [dataflowref27_Equal.l0, if_pos (by omega), if_pos (by omega), if_pos (by omega), if_pos rfl, w64 (by omega) (by omega)]
    exact ih (i + 1) k (by omega) (by omega) hl

/-- What holds of the place after some edges: in range; a balanced path is in the function in which it began; the first pending call is of that function. -/
def inv (N : List S35) (src node : Int) (calls : List Int) : Prop :=
  0 ≤ node ∧ node < N.length ∧ (calls = [] → (rd_T35 N node).f0 = (rd_T35 N src).f0) ∧ (∀ c t, calls = c :: t → (rd_T35 N c).f0 = (rd_T35 N src).f0)

theorem law_loop (N : List S35) (E : List S32) (m src : Int) (hc : ∀ k, 400000 ≤ k → super_Check.f k N E m = some 0) (hg : ∀ j : Nat, j < E.length → keeps N (rd_T32 E (j : Int))) (hs0 : 0 ≤ src) (hs1 : src < N.length)
    (path : List Int) (hp : path.length ≤ 60) (hok : (folL E path src []).2.2 = 0) : ∀ (t i k : Nat), i + t = path.length → 5 * t + 420000 ≤ k → ∀ (node : Int) (calls : List Int), folL E (path.take i) src [] = (node, calls, 0) → inv N src node calls →
    dataflowlaw28_VpathMatch.l0 k src path node calls (i : Int) N E m = some true := by
  have hfo : ∀ (q : List Int), q.length ≤ 60 → ∀ k, 410000 ≤ k → vpath_follow.f k N E m src q = some (folL E q src []) := by
    intro q hq k hk
    have := follow_ok N E m src 0 hc q (by omega) k hk
    rw [this]
    unfold fo
    rw [if_pos rfl, if_neg (by omega)]
  intro t
  induction t with
  | zero =>
    intro i k h hk node calls hst hinv
    obtain ⟨k, rfl⟩ : ∃ k', k = k' + 1 := ⟨k - 1, by omega⟩
    have hti : path.take i = path := List.take_of_length_le (by omega)
    rw [hti] at hst
    have hcl := folL_len E path src []
    rw [hst] at hcl
    have hcl' : calls.length ≤ 60 := by simp at hcl; omega
    have hS : vpath_Stack.f k N E m src path = some (calls, 0) := by
      unfold vpath_Stack.f
      rw [hfo path hp k (by omega), hst]
      simp only [Option.bind_some, if_true]
      unfold slices_Clone_int_int.f
      simp only [Option.bind_some]
      rw [if_pos (by simp; omega)]
      simp
    have hE : vpath_End.f k N E m src path = some (node, 0) := by
      unfold vpath_End.f
      rw [hfo path hp k (by omega), hst]
      rfl
    have hEq : dataflowref27_Equal.f k calls calls = some true := by
      unfold dataflowref27_Equal.f
      rw [if_pos rfl, show (0 : Int) = ((0 : Nat) : Int) from rfl, equal_loop calls calls.length 0 k (by omega) (by omega) (by omega)]
    rw [dataflowlaw28_VpathMatch.l0, if_neg (by omega), hS]
    simp only [Option.bind_some]
    rw [hE]
    simp only [Option.bind_some, if_true]
    rw [hEq]
    simp only [Option.bind_some, if_true]
    rw [awake_ok k (by omega)]
    rfl
  | succ t ih =>
    intro i k h hk node calls hst hinv
    obtain ⟨k, rfl⟩ : ∃ k', k = k' + 5 := ⟨k - 5, by omega⟩
    obtain ⟨hn0, hn1, hi0, hi1⟩ := hinv
    have hil : i < path.length := by omega
    have hw : wrap64 ((i : Int) + 1) = ((i + 1 : Nat) : Int) := by rw [w64 (by omega) (by omega)]; push_cast; rfl
    have htk : path.take (i + 1) = path.take i ++ [rd path (i : Int)] := by
      rw [List.take_add_one, List.getElem?_eq_getElem hil, rd_nat, List.getD_eq_getElem?_getD, List.getElem?_eq_getElem hil]
      rfl
    have hpre : (folL E (path.take (i + 1)) src []).2.2 = 0 := by
      have := folL_append E (path.take (i + 1)) (path.drop (i + 1)) src [] (by rw [List.take_append_drop]; exact hok)
      exact this.1
    have hst2 : folL E (path.take (i + 1)) src [] = folL E [rd path (i : Int)] node calls := by
      have happ := folL_append E (path.take i) [rd path (i : Int)] src [] (by rw [← htk]; exact hpre)
      rw [htk, happ.2, hst]
    have hpre2 : (folL E [rd path (i : Int)] node calls).2.2 = 0 := by rw [← hst2]; exact hpre
    have hcl := folL_len E (path.take i) src []
    rw [hst] at hcl
    have hcl' : calls.length ≤ 60 := by rw [List.length_take] at hcl; simp at hcl; omega
    -- the round's end
    have hj4 : ∀ (node' : Int) (calls' : List Int) (k' : Nat), 5 * t + 420000 ≤ k' → folL E (path.take (i + 1)) src [] = (node', calls', 0) → inv N src node' calls' →
        dataflowlaw28_VpathMatch.j4 (k' + 2) src path node' calls' (i : Int) N E m = some true := by
      intro node' calls' k' hk' hst' hinv'
      have hnext := ih (i + 1) k' (by omega) hk' node' calls' hst' hinv'
      obtain ⟨g0, g1, g2, g3⟩ := hinv'
      have hlt : (path.take (i + 1)).length ≤ 60 := by rw [List.length_take]; omega
      have hC : vpath_Check.f (k' + 1) N E m src (path.take (i + 1)) = some 0 := by
        unfold vpath_Check.f
        rw [hfo _ hlt (k' + 1) (by omega), hst']
        rfl
      have hB : vpath_Balanced.f (k' + 1) N E m src (path.take (i + 1)) = some ((calls'.length : Int) == 0) := by
        unfold vpath_Balanced.f
        rw [hfo _ hlt (k' + 1) (by omega), hst']
        rfl
      have ht : (((i + 1 : Nat) : Int)).toNat = i + 1 := by simp
      rw [dataflowlaw28_VpathMatch.j4, hw, if_pos (by omega), if_pos (by omega), ht, hC]
      simp only [Option.bind_some, if_true]
      rw [hB]
      simp only [Option.bind_some]
      rw [dataflowlaw28_VpathMatch.j5, if_neg (by simp), hw]
      by_cases hz : (calls'.length : Int) = 0
      · have hz' : calls' = [] := List.length_eq_zero_iff.1 (by omega)
        rw [if_pos hz, if_pos g0, if_pos g1, if_pos hs0, if_pos hs1, if_pos (g2 hz'), hnext]
      · rw [if_neg hz, hnext]
    generalize hp' : rd path (i : Int) = p at hst2 hpre2
    rw [folL] at hst2 hpre2
    by_cases c : p < 0 ∨ p ≥ E.length
    · rw [if_pos c] at hpre2; simp at hpre2
    · rw [if_neg c] at hst2 hpre2
      obtain ⟨q, rfl⟩ : ∃ q : Nat, p = (q : Int) := ⟨p.toNat, by omega⟩
      have hk0 := hg q (by omega)
      rw [dataflowlaw28_VpathMatch.l0, if_pos (by omega), if_pos (by omega), hp', if_neg (by omega), if_neg (by omega), if_pos (by omega), if_pos (by omega)]
      rw [dataflowlaw28_VpathMatch.j2, hp']
      generalize rd_T32 E (q : Int) = d at hst2 hpre2 hk0 ⊢
      obtain ⟨⟨r0, r1, r2, r3, r4, r5, r6⟩, k1, k2⟩ := hk0
      by_cases c1n : ¬ d.f0 = node
      · rw [if_neg c1n] at hpre2; simp at hpre2
      · have c1 : d.f0 = node := Classical.not_not.1 c1n
        rw [if_pos c1] at hst2 hpre2
        rw [if_neg (by simp [c1]), if_pos (by omega), if_pos (by omega), if_pos (by omega), if_pos (by omega)]
        by_cases c2 : d.f2 = 3 ∨ d.f2 = 4
        · rw [if_pos c2] at hst2 hpre2
          by_cases c3 : 0 < calls.length ∧ calls.getD (calls.length - 1) 0 = d.f3
          · rw [if_pos c3] at hst2 hpre2
            have hinv' : inv N src d.f1 (calls.take (calls.length - 1)) := by
              refine ⟨r2, r3, fun hz => ?_, fun c0 t0 hz => ?_⟩
              · have hlen1 : calls.length = 1 := by
                  have := congrArg List.length hz
                  rw [List.length_take] at this
                  simp at this
                  omega
                match calls, hlen1 with
                | [c0], _ =>
                  have e3 : c0 = d.f3 := by simpa using c3.2
                  rw [k2 c2, ← e3]
                  exact hi1 c0 [] rfl
              · match calls, hz with
                | [], hz => simp at hz
                | c9 :: t9, hz =>
                  have : c9 = c0 := by
                    have h9 := congrArg (fun l => l[0]?) hz
                    simp only [List.getElem?_cons_zero, List.getElem?_take] at h9
                    split at h9
                    · simpa using h9
                    · cases h9
                  subst this
                  exact hi1 c9 t9 rfl
            have e1 : wrap64 ((calls.length : Int) - 1) = ((calls.length - 1 : Nat) : Int) := by rw [w64 (by omega) (by omega)]; omega
            have hj3 : dataflowlaw28_VpathMatch.j3 (k + 3) src path d.f1 calls (i : Int) true N E m d.f0 d.f1 d.f2 d.f3 = some true := by
              rw [dataflowlaw28_VpathMatch.j3, if_pos rfl, if_neg (by omega), e1, if_pos (by omega), if_pos (by omega), rd_nat, if_pos c3.2, if_pos (by omega)]
              have ht : (((calls.length - 1 : Nat) : Int)).toNat = calls.length - 1 := by simp
              rw [ht]
              exact hj4 _ _ k (by omega) (by rw [hst2]; rfl) hinv'
            rw [if_neg (by omega)]
            by_cases c4 : d.f2 = 3
            · rw [if_pos c4, show (d.f2 == 3) = true by simp [c4]]; exact hj3
            · rw [if_neg c4, show (d.f2 == 4) = true by simp; omega]; exact hj3
          · rw [if_neg c3] at hpre2; simp at hpre2
        · rw [if_neg c2] at hst2 hpre2
          by_cases c3 : d.f2 = 2
          · rw [if_pos c3] at hst2 hpre2
            rw [if_pos c3, if_pos (by omega)]
            have hinv' : inv N src d.f1 (calls ++ [d.f0]) := by
              refine ⟨r2, r3, fun hz => by simp at hz, fun c0 t0 hz => ?_⟩
              match calls, hz with
              | [], hz =>
                have : d.f0 = c0 := by simpa using (List.cons.inj hz).1
                rw [← this, c1]
                exact hi0 rfl
              | c9 :: t9, hz =>
                have : c9 = c0 := (List.cons.inj hz).1
                rw [← this]
                exact hi1 c9 t9 rfl
            exact hj4 _ _ (k + 1) (by omega) (by rw [hst2]; rfl) hinv'
          · rw [if_neg c3] at hst2 hpre2
            have hinv' : inv N src d.f1 calls := by
              refine ⟨r2, r3, fun hz => ?_, hi1⟩
              rw [← k1 (by omega), c1]
              exact hi0 hz
            have hj3 : dataflowlaw28_VpathMatch.j3 (k + 3) src path d.f1 calls (i : Int) false N E m d.f0 d.f1 d.f2 d.f3 = some true := by
              rw [dataflowlaw28_VpathMatch.j3, if_neg (by simp)]
              exact hj4 _ _ k (by omega) (by rw [hst2]; rfl) hinv'
            rw [if_neg c3, if_neg (by omega), show (d.f2 == 4) = false by simp; omega]
            exact hj3

theorem pure_VpathMatch (N : List S35) (E : List S32) (m src : Int) (path : List Int) (hw : (N.all fun x => (Lit.int .i64 x.f0).wf) = true) : ∃ k, dataflowlaw28_VpathMatch.f k N E m src path = some true := by
  refine ⟨500001, ?_⟩
  have hj0 : dataflowlaw28_VpathMatch.j0 500001 src path true N E m = some true := by
    rw [dataflowlaw28_VpathMatch.j0, if_pos rfl, awake_ok _ (by omega)]; rfl
  unfold dataflowlaw28_VpathMatch.f dataflowlaw28_small.f
  by_cases hN : (N.length : Int) ≤ 40
  · rw [if_pos hN]
    simp only [Option.bind_some]
    by_cases hE : (E.length : Int) ≤ 120
    · rw [if_pos (by simpa using hE)]
      by_cases hp : (path.length : Int) > 60
      · rw [if_pos hp, hj0]
      · rw [if_neg hp]
        obtain ⟨e, hc, hg⟩ := check_any N E m (by omega) hw
        have hC : vpath_Check.f 500001 N E m src path = some (fo N E e src path).2.2 := by
          unfold vpath_Check.f
          rw [follow_ok N E m src e hc path (by omega) 500001 (by omega)]
          rfl
        rw [hC]
        simp only [Option.bind_some]
        by_cases hz : (fo N E e src path).2.2 = 0
        · rw [hz]
          have he : e = 0 := by
            by_cases he : e = 0
            · exact he
            · unfold fo at hz; rw [if_neg he] at hz; exact hz
          subst he
          have hs : ¬ (src < 0 ∨ src ≥ N.length) := by
            intro h
            unfold fo at hz
            rw [if_pos rfl, if_pos h] at hz
            simp at hz
          unfold fo at hz
          rw [if_pos rfl, if_neg hs] at hz
          show dataflowlaw28_VpathMatch.j0 500001 src path false N E m = some true
          rw [dataflowlaw28_VpathMatch.j0, if_neg (by simp)]
          have := law_loop N E m src hc (hg rfl).2 (by omega) (by omega) path (by omega) hz path.length 0 500000 (by omega) (by omega) src [] (by simp [folL]) ⟨by omega, by omega, fun _ => rfl, fun c t h => by cases h⟩
          simpa using this
        · rw [show ((fo N E e src path).2.2 != 0) = true from bne_iff_ne.mpr hz, hj0]
    · rw [if_neg (by simpa using hE), hj0]
  · rw [if_neg hN]
    simp only [Option.bind_some]
    rw [if_neg (by simp), hj0]

#print axioms pure_VpathMatch
end Go.Proofs.Ytflpelbhalndcaa.QV
