/- slices.IsSortedFunc of edges by From, for every row of edges that came in. No condition. -/
import Derived.Test.YtflpelbhalndcaaQVg1
import Derived.Shelf.SlicesQ.Load
import Derived.Shelf.SlSortCmp.QuietGrown
import Derived.Shelf.Abstract
import Derived.Deep.LoopGhost
namespace Go.Proofs.Ytflpelbhalndcaa.QV
open Go.RowKit Go.Shelf Go.Lib Go.Sort Go.Proofs.YtflpelbhalndcaaW.PrintWords Go.Proofs.YtflpelbhalndcaaW.PrintLast Go.Proofs.YtflpelbhalndcaaW.PrintMore
open Go.Proofs.Ytflpelbhalndcaa.Cmp Go.Proofs.Ytflpelbhalndcaa.Bridge
set_option linter.unusedVariables false
set_option linter.unusedSimpArgs false

theorem closure110 (x y : S32) (W : World) : Calls Try.prog 110 #[.agg (enc32 x).toArray, .agg (enc32 y).toArray] W fun e w' => e = .returned (.int .i64 (cmpI x.f0 y.f0)) ∧ ∃ q os', w' = grow (W.drewN q) os' := by
  have hcon := fun W' => compare x.f0 y.f0 W'
  generalize cmpI x.f0 y.f0 = r at hcon ⊢
  unfold enc32
  go_enter Try.func110, Try.ntmps110
  go_wp2_with (go_at_call 88; refine (hcon _).mono ?_; rintro e w' ⟨rfl, rfl⟩)
  go_ret
  exact ⟨rfl, 0, _, by rw [alloc_eq_grow, alloc_eq_grow, grow_grow]; rfl⟩

theorem addN (b o n : Nat) : (⟨b, o, none⟩ : Addr).add n = ⟨b, o + n, none⟩ := by
  unfold Addr.add
  split
  · subst_vars; rfl
  · rfl

theorem cell32 {w : World} {b o n : Nat} {l : List S32} (h : Kd.C k32 w (some ⟨b, o, none⟩) n l) (i : Nat) (hi : i < n) (m : Nat) (os : Array Obj) :
    (grow (w.drewN m) os).cell? ⟨b, o + i * 4, none⟩ = some (.int .i64 (l.getD i z32).f0) ∧ (grow (w.drewN m) os).cell? ⟨b, o + i * 4 + 1, none⟩ = some (.int .i64 (l.getD i z32).f1) ∧
    (grow (w.drewN m) os).cell? ⟨b, o + i * 4 + 2, none⟩ = some (.int .i64 (l.getD i z32).f2) ∧ (grow (w.drewN m) os).cell? ⟨b, o + i * 4 + 3, none⟩ = some (.int .i64 (l.getD i z32).f3) := by
  have hl : i < l.length := by have := h.1; omega
  obtain ⟨ad, e, hc⟩ := h.2.2 (by omega)
  obtain ⟨c, hcl, hK, hcell⟩ := hc i _ (List.getElem?_eq_getElem hl)
  injection e with e
  subst e
  have hcs := k32_open hK
  have e2 : l.getD i z32 = l[i] := by rw [List.getD_eq_getElem?_getD, List.getElem?_eq_getElem hl]; rfl
  rw [e2]
  have hh : ∀ (j : Nat) v, c[j]? = some v → (grow (w.drewN m) os).cell? ⟨b, o + i * 4 + j, none⟩ = some v := by
    intro j v hj
    have h1 := hcell j v hj
    rw [addN, show o + (i * k32.sz + j) = o + i * 4 + j from (Nat.add_assoc o (i * 4) j).symm] at h1
    exact cell_grown (World.block_lt_of_cell? w _ h1) h1 m os
  exact ⟨hh 0 _ (by rw [hcs]; rfl), hh 1 _ (by rw [hcs]; rfl), hh 2 _ (by rw [hcs]; rfl), hh 3 _ (by rw [hcs]; rfl)⟩

/-- Each edge's From is at most the next one's. -/
def sortedF : List S32 → Bool
  | x :: y :: t => !(decide (y.f0 < x.f0)) && sortedF (y :: t)
  | _ => true

theorem sortedF_iff : ∀ l : List S32, sortedF l = true ↔ ∀ t, t + 1 < l.length → (l.getD t z32).f0 ≤ (l.getD (t + 1) z32).f0
  | [] => by simp [sortedF]
  | [x] => by simp [sortedF]
  | x :: y :: l => by
    have ih := sortedF_iff (y :: l)
    simp only [sortedF, Bool.and_eq_true, Bool.not_eq_true', decide_eq_false_iff_not, Int.not_lt]
    rw [ih]
    constructor
    · rintro ⟨h1, h2⟩ t ht
      match t with
      | 0 => simpa using h1
      | t + 1 => exact h2 t (by simpa using ht)
    · intro h
      exact ⟨by simpa using h 0 (by simp), fun t ht => by simpa using h (t + 1) (by simpa using ht)⟩

theorem cmpI_lt (a b : Int) : cmpI a b < 0 ↔ a < b := by
  unfold cmpI
  by_cases h : a < b
  · simp [h]
  · by_cases h2 : a > b <;> simp [h, h2]

set_option maxHeartbeats 4000000 in
theorem isSorted_some (b o n c : Nat) (l : List S32) (w : World) (hr : Kd.C k32 w (some ⟨b, o, none⟩) n l) (hn : 0 < n) :
    Calls Try.prog 109 #[.slice (some ⟨b, o, none⟩) n c, .func (.func 110) #[] #[]] w fun e w' => e = .returned (.bool (sortedF l)) ∧ ∃ m os, w' = grow (w.drewN m) os := by
  have eg : ∀ args w, (callFunc 110 args).run Try.prog w = .ok (.enter 110 args) w := enters_of Try.func110 (by kernel_rfl) rfl
  have mixed : Try.prog.follows .mixedOrders = true := by kernel_rfl
  have aE := isAgg32
  have zE := sizeOf32
  have hnl : l.length = n := hr.1
  have hnm : n ≤ 9223372036854775807 := hr.2.1
  have LD := Aside0.mk (cell32 hr)
  clear hr
  go_enter Try.func109, Try.ntmps109
  go_wp2
  go_loopg [5] n (fun g1 vi wr => ∃ (i m : Nat) (os : Array Obj), vi = .int .i64 i ∧ i < n ∧ i ≤ g1 ∧ wr = grow (w.drewN m) os ∧ Hid (∀ t, i ≤ t → t + 1 < l.length → (l.getD t z32).f0 ≤ (l.getD (t + 1) z32).f0))
  case atStart => exact ⟨n - 1, 0, #[], by go_num, by omega, by omega, by rw [grow_empty]; rfl, fun t h1 h2 => by omega⟩
  case round =>
    obtain ⟨i, m, os, rfl, hi, hg, rfl, HS⟩ := hrel
    have hwp : IntKind.i64.wrap ((i : Int) - 1) = (i : Int) - 1 := by rw [IntKind.wrap_i64]; omega
    by_cases h0 : 0 < i
    · obtain ⟨j, rfl⟩ : ∃ j, i = j + 1 := ⟨i - 1, by omega⟩
      have jz : (j : Int) + 1 < (n : Int) := by omega
      have jz1 : (j : Int) < (n : Int) := by omega
      have p0 : (0 : Int) ≤ (j : Int) + 1 := by omega
      have p1 : (0 : Int) < (j : Int) + 1 := by omega
      have e0 : ((j : Int) + 1).toNat = j + 1 := by omega
      have hwj : IntKind.i64.wrap (j : Int) = (j : Int) := by rw [IntKind.wrap_i64]; omega
      have u23 := run_underlying Try.underlying23
      have hcl : ∀ q os', grow ((grow (w.drewN m) os).drewN q) os' = grow (w.drewN (m + q)) (os ++ os') := fun q os' => by
        show grow (grow ((w.drewN m).drewN q) os) os' = _
        rw [grow_grow, World.drewN_drewN]
      have lj : ∀ q os', _ := fun q os' => (hcl q os').symm ▸ LD.out (j + 1) hi (m + q) (os ++ os')
      have lp : ∀ q os', _ := fun q os' => (hcl q os').symm ▸ LD.out j (by omega) (m + q) (os ++ os')
      have CLS := Aside0.mk hcl
      clear hcl
      generalize hx : l.getD (j + 1) z32 = x at lj
      generalize hy : l.getD j z32 = y at lp
      generalize hwq : grow (w.drewN m) os = wq at lj lp CLS ⊢
      have lj0 := fun q os' => (lj q os').1
      have lj1 := fun q os' => (lj q os').2.1
      have lj2 := fun q os' => (lj q os').2.2.1
      have lj3 := fun q os' => (lj q os').2.2.2
      have lp0 := fun q os' => (lp q os').1
      have lp1 := fun q os' => (lp q os').2.1
      have lp2 := fun q os' => (lp q os').2.2.1
      have lp3 := fun q os' => (lp q os').2.2.2
      clear lj lp
      have hcg : ∀ q os', Calls Try.prog 110 #[.agg #[.int .i64 x.f0, .int .i64 x.f1, .int .i64 x.f2, .int .i64 x.f3], .agg #[.int .i64 y.f0, .int .i64 y.f1, .int .i64 y.f2, .int .i64 y.f3]] (grow (wq.drewN q) os') fun e w' => e = .returned (.int .i64 (cmpI x.f0 y.f0)) ∧ ∃ q' os'', w' = grow ((grow (wq.drewN q) os').drewN q') os'' := fun q os' => closure110 x y _
      by_cases hlv : cmpI x.f0 y.f0 < 0
      · go_wp2_with fail
        go_quiet_grown (first | (go_at_fn 110; refine Calls.grown_of (hcg _ _)))
        go_wp2_with fail
        go_ret
        refine ⟨?_, m + nq, os ++ osq, CLS.out nq osq⟩
        have : sortedF l = false := by
          cases h : sortedF l with
          | false => rfl
          | true => exact absurd ((cmpI_lt _ _).1 hlv) (by have := (sortedF_iff l).1 h j (by omega); rw [hx, hy] at this; omega)
        rw [this]
        rfl
      · go_wp2_with fail
        go_quiet_grown (first | (go_at_fn 110; refine Calls.grown_of (hcg _ _)))
        go_wp2_with fail
        go_roundg j
        case measure => omega
        case rel =>
          refine ⟨j, m + nq, os ++ osq, rfl, by omega, Nat.le_refl _, CLS.out nq osq, (show Hid _ from ?_)⟩
          show ∀ t, _
          intro t h1 h2
          by_cases ht : t = j
          · subst ht
            rw [hx, hy]
            have := (not_congr (cmpI_lt x.f0 y.f0)).1 (by omega)
            omega
          · exact HS.out t (by omega) h2
    · have hi0 : i = 0 := by omega
      subst hi0
      go_wp2_with fail
      go_ret
      refine ⟨?_, m, os, rfl⟩
      rw [(sortedF_iff l).2 (fun t ht => HS.out t (Nat.zero_le _) ht)]
      rfl

def api_SEdge_109.f (l0 : List S32) : Option Bool := some (sortedF l0)

theorem isSorted_none (A : Option Addr) (c : Nat) (f : Value) (w : World) : Calls Try.prog 109 #[.slice A 0 c, f] w fun e w' => e = .returned (.bool true) ∧ w' = w := by
  go_enter Try.func109, Try.ntmps109
  go_wp2
  go_loop [5] (fun i => i = .int .i64 (-1)) (fun _ => 0)
  case atStart => rfl
  case round =>
    subst hrel
    go_wp2
    go_ret
    exact ⟨rfl, rfl⟩

theorem spot_none {w : World} {ad : Addr} {n : Nat} {l : List S32} (h : Kd.C k32 w (some ad) n l) (hn : 0 < n) : ∃ b o, ad = ⟨b, o, none⟩ ∧ b < w.heap.size := by
  have hl : 0 < l.length := by have := h.1; omega
  obtain ⟨ad', e, hc⟩ := h.2.2 hn
  obtain ⟨c, hcl, hK, hcell⟩ := hc 0 _ (List.getElem?_eq_getElem hl)
  injection e with e
  subst e
  have hcs := k32_open hK
  have h1 := hcell 0 _ (by rw [hcs]; rfl)
  have e2 : ad.add (0 * k32.sz + 0) = ad := by simp [Addr.add]
  rw [e2] at h1
  obtain ⟨b, o, s⟩ := ad
  have hb := World.block_lt_of_cell? w _ h1
  cases s with
  | none => exact ⟨b, o, rfl, hb⟩
  | some s =>
    exfalso
    unfold World.cell? at h1
    simp at h1
    split at h1 <;> simp at h1

theorem below_grow {w : World} (m : Nat) (os : Array Obj) : Below w.heap.size w (grow (w.drewN m) os) :=
  ⟨rfl, rfl, rfl, by simp [grow, World.drewN], fun k hk => by simp only [grow, World.drewN]; rw [Array.getElem?_append_left hk]⟩

theorem api_SEdge_109.calls (A0 : Option Addr) (c0 : Nat) (l0 : List S32) (r : Bool) (w : World) (hr0 : Kd.C k32 w A0 l0.length l0) (hc0 : l0.length ≤ c0) (h : api_SEdge_109.f l0 = some r) :
    Calls Try.prog 109 #[.slice A0 l0.length c0, .func (.func 110) #[] #[]] w fun e w' => e = .returned (.bool r) ∧ Below w.heap.size w w' := by
  obtain rfl := Option.some.inj h
  by_cases hn : 0 < l0.length
  · obtain ⟨ad, rfl, _⟩ := hr0.2.2 hn
    obtain ⟨b, o, rfl, _⟩ := spot_none hr0 hn
    refine (isSorted_some b o l0.length c0 l0 w hr0 hn).mono ?_
    rintro e w' ⟨he, m, os, rfl⟩
    exact ⟨he, below_grow m os⟩
  · have : l0 = [] := List.length_eq_zero_iff.1 (by omega)
    subst this
    refine (isSorted_none A0 c0 _ w).mono ?_
    rintro e w' ⟨he, rfl⟩
    exact ⟨he, Below.refl _ _⟩
end Go.Proofs.Ytflpelbhalndcaa.QV
