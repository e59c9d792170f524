/- super.checkNodes in the print's form: for every row of at most 1000000 nodes. -/
import Derived.Test.YtflpelbhalndcaaQVg5
namespace Go.Proofs.Ytflpelbhalndcaa.QV
open Go.RowKit Go.Shelf Go.Lib Go.Sort Go.Maps Go.Proofs.YtflpelbhalndcaaW.PrintWords Go.Proofs.YtflpelbhalndcaaW.PrintLast Go.Proofs.YtflpelbhalndcaaW.PrintMore
open Go.Proofs.Ytflpelbhalndcaa.Cmp Go.Proofs.Ytflpelbhalndcaa.Bridge
set_option linter.unusedVariables false
set_option linter.unusedSimpArgs false

set_option maxHeartbeats 4000000 in
set_option maxRecDepth 100000 in
theorem checkNodes_none (A : Option Addr) (c : Nat) (w : World) :
    Calls Try.prog 108 #[.slice A 0 c] w fun e w' => e = .returned (.int .i64 0) ∧ Below w.heap.size w w' := by
  have hmm := @run_makeMap Try.prog
  go_enter Try.func108, Try.ntmps108
  go_wp2
  go_loopg [11] 0 (fun g1 vi wr => vi = .int .i64 0 ∧ wr.ownsMap Try.prog 3 (plainElem (H := Unit) Try.prog 3) w.heap.size 0 (.map []) ∧ Below w.heap.size w wr)
  case atStart => exact ⟨rfl, World.ownsMap_made _ _ _ _, (Below.refl _ _).alloc (Nat.le_refl _) _⟩
  case round =>
    obtain ⟨rfl, hown, hB⟩ := hrel
    have HO := Aside0.mk hown
    have HB := Aside0.mk hB
    clear hown hB hmm
    obtain ⟨wo, rfl⟩ : ∃ wo : World, wo = wr := ⟨_, rfl⟩
    go_wp2_with (first
      | (at_range; refine wpList_range_own _ rfl _ 155 rfl 3 3 law3 Try.underlying155 _ w.heap.size 0 _ rfl HO.out ?_; intro w0 hrg0 hg0 hs0)
      | go_in)
    go_frame
    have HG0 := Aside0.mk hrg0
    have HB0 := Aside0.mk (HB.out.grown hg0 HB.out.size (fun j hj => by cases hj))
    clear hrg0 hg0
    go_loopw [7] (fun _ wr2 => ∃ (left : Lit → Bool) (cnt : Nat), wr2.ranges Try.prog 3 (plainElem (H := Unit) Try.prog 3) w.heap.size wo.heap.size 0 (.map []) left cnt ∧ Below w.heap.size w wr2) (fun _ wr2 => wr2.rangeLeft w.heap.size wo.heap.size)
    case atStart => exact ⟨_, _, HG0.out, HB0.out⟩
    case round =>
      obtain ⟨left, cnt, hrg, hB2⟩ := hrel
      go_wp2_with (first
        | (at_next; refine wpList_next_ranges_ii _ rfl _ rfl 3 3 .i64 .i64 law3 Try.underlying3 Try.underlying3 w.heap.size wo.heap.size 0 _ _ _ rfl hrg ?_ ?_)
        | go_in)
      · intro _ hl0
        clear hl0
        go_wp2
        go_ret
        exact ⟨rfl, hB2⟩
      · intro x c w1 cnt1 hwx hwc hlx hat hrg1 hlt hg1 hs1 hen
        have := Maps.has_true_of_atKey hat
        simp [Maps.has] at this

/-- The error that checkNodes returns. -/
def nodesErr (l : List S35) : Int := if scan l l.length 0 ≠ 0 then scan l l.length 0 else if l.all (fun x => cntN l x.f0 l.length == 3) then 0 else 1
def super_checkNodes.f (l0 : List S35) : Option Int := if l0.length ≤ 1000000 ∧ (l0.all fun x => (Lit.int .i64 x.f0).wf) = true then some (nodesErr l0) else none

theorem spot35 {w : World} {ad : Addr} {n : Nat} {l : List S35} (h : Kd.C k35 w (some ad) n l) (hn : 0 < n) : ∃ b o, ad = ⟨b, o, none⟩ ∧ b < w.heap.size := by
  have hl : 0 < l.length := by have := h.1; omega
  obtain ⟨ad', e, hc⟩ := h.2.2 hn
  obtain ⟨c, hcl, hK, hcell⟩ := hc 0 _ (List.getElem?_eq_getElem hl)
  injection e with e
  subst e
  have hcs := k35_open hK
  have h1 := hcell 0 _ (by rw [hcs]; rfl)
  have e2 : ad.add (0 * k35.sz + 0) = ad := by simp [Addr.add]
  rw [e2] at h1
  obtain ⟨b, o, s⟩ := ad
  have hb := World.block_lt_of_cell? w _ h1
  cases s with
  | none => exact ⟨b, o, rfl, hb⟩
  | some s =>
    exfalso
    unfold World.cell? at h1
    simp at h1
    split at h1 <;> simp at h1

theorem super_checkNodes.calls (A0 : Option Addr) (c0 : Nat) (l0 : List S35) (r : Int) (w : World) (hr0 : Kd.C k35 w A0 l0.length l0) (hc0 : l0.length ≤ c0) (h : super_checkNodes.f l0 = some r) :
    Calls Try.prog 108 #[.slice A0 l0.length c0] w fun e w' => e = .returned (.int .i64 r) ∧ Below w.heap.size w w' := by
  unfold super_checkNodes.f at h
  split at h
  case isFalse => cases h
  case isTrue hh =>
    obtain ⟨h1, h2⟩ := hh
    obtain rfl := Option.some.inj h
    by_cases hn : 0 < l0.length
    · obtain ⟨ad, rfl, _⟩ := hr0.2.2 hn
      obtain ⟨b, o, rfl, hb⟩ := spot35 hr0 hn
      exact checkNodes_some (H := Unit) b o l0.length c0 l0 w hr0 hn hb h1 (fun x hx => List.all_eq_true.1 h2 x hx) _ rfl
    · have : l0 = [] := List.length_eq_zero_iff.1 (by omega)
      subst this
      exact checkNodes_none A0 c0 w
end Go.Proofs.Ytflpelbhalndcaa.QV
