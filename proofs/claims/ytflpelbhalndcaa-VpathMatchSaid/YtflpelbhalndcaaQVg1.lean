/- slices.SortFunc of edges by super.compareEdges, for rows of 1 to 1000000 edges: the row holds its edges in order. -/
import Derived.Test.YtflpelbhalndcaaQVx0
import Derived.Test.YtflpelbhalndcaaCmp
import Derived.Test.YtflpelbhalndcaaBridge
import Derived.Test.YtflpelbhalndcaaShelfP
import Derived.Shelf.SlSortCmp.NoneTotal
namespace Go.Proofs.Ytflpelbhalndcaa.QV
open Go.RowKit Go.Shelf Go.Lib Go.Sort Go.Proofs.YtflpelbhalndcaaW.PrintWords Go.Proofs.YtflpelbhalndcaaW.PrintLast Go.Proofs.YtflpelbhalndcaaW.PrintMore
open Go.Proofs.Ytflpelbhalndcaa.Cmp Go.Proofs.Ytflpelbhalndcaa.Bridge
set_option linter.unusedVariables false
set_option linter.unusedSimpArgs false

instance : Inhabited S32 := ⟨z32⟩
def enc32 (x : S32) : List Value := [.int .i64 x.f0, .int .i64 x.f1, .int .i64 x.f2, .int .i64 x.f3]
def cf32 (x y : S32) : Int := orI [cmpI x.f0 y.f0, cmpI x.f1 y.f1, cmpI x.f2 y.f2, cmpI x.f3 y.f3]

theorem or_lt (a b : Int) (t : List Int) : orI (cmpI a b :: t) < 0 ↔ (a < b ∨ (a = b ∧ orI t < 0)) := by
  have e : orI (cmpI a b :: t) = if cmpI a b ≠ 0 then cmpI a b else orI t := rfl
  rw [e]
  rcases Int.lt_trichotomy a b with h | h | h
  · have h1 : cmpI a b = -1 := if_pos h
    rw [h1]; simp [h]
  · have h1 : cmpI a b = 0 := by rw [h]; simp [cmpI]
    rw [h1]; simp [h]
  · have h1 : cmpI a b = 1 := by unfold cmpI; rw [if_neg (by omega), if_pos (by omega)]
    rw [h1]; simp; omega

theorem cf32_lt (x y : S32) : cf32 x y < 0 ↔ (x.f0 < y.f0 ∨ (x.f0 = y.f0 ∧ (x.f1 < y.f1 ∨ (x.f1 = y.f1 ∧ (x.f2 < y.f2 ∨ (x.f2 = y.f2 ∧ x.f3 < y.f3)))))) := by
  unfold cf32
  rw [or_lt, or_lt, or_lt, or_lt]
  have : ¬ (orI [] < 0) := by simp [orI]
  simp only [this, and_false, or_false]

theorem lt32 (x y : S32) : ltOf cf32 x y = decide (x.f0 < y.f0 ∨ (x.f0 = y.f0 ∧ (x.f1 < y.f1 ∨ (x.f1 = y.f1 ∧ (x.f2 < y.f2 ∨ (x.f2 = y.f2 ∧ x.f3 < y.f3)))))) := by
  unfold ltOf
  simp only [cf32_lt]

theorem swo32 : SWO (ltOf cf32) where
  irrefl x := by rw [lt32]; simp
  trans x y z h1 h2 := by rw [lt32] at *; simp only [decide_eq_true_eq] at *; omega
  ntrans x y z h1 h2 := by rw [lt32] at *; simp only [decide_eq_false_iff_not] at *; omega

theorem total32 (x y : S32) (h1 : ltOf cf32 x y = false) (h2 : ltOf cf32 y x = false) : x = y := by
  rw [lt32] at *
  simp only [decide_eq_false_iff_not] at *
  cases x
  cases y
  simp only [S32.mk.injEq] at *
  omega

theorem isAgg32 (w : World) : (isAgg 32).run Try.prog w = .ok true w := by kernel_rfl
theorem sizeOf32 (w : World) : (Go.sizeOf 32).run Try.prog w = .ok 4 w := by kernel_rfl

theorem cmpLays149 (blk off size : Nat) (w : World) : CmpLays Try.prog 149 #[] enc32 4 cf32 blk off size w := by
  intro m os dk hdk x y
  refine (edges x.f0 x.f1 x.f2 x.f3 y.f0 y.f1 y.f2 y.f3 _).mono ?_
  rintro e w' ⟨he, hb, hd⟩
  exact ⟨he, grow_of_below hb hd⟩

def sort32 (l : List S32) : List S32 := (l.mergeSort fun x y => !(ltOf cf32) y x)
def api_SEdge_148.f (l0 : List S32) : Option (List S32) := if 0 < l0.length ∧ l0.length ≤ 1000000 then some (sort32 l0) else none

theorem enc32_of {w : World} {base : Nat} {ok : Nat → Prop} {x : S32} {cs : List Value} (h : k32.M w base ok x cs) : cs = enc32 x := k32_openM h

theorem api_SEdge_148.calls (P0_ : Nat → Prop) (u9000_ : Value) (l0 : List S32) (r : List S32) (w0 w : World) (hB : Below w0.heap.size w0 w) (ho0 : Kd.R k32 32 w w0.heap.size P0_ u9000_ l0) (h : api_SEdge_148.f l0 = some r) :
    Calls Try.prog 148 #[u9000_, .func (.func 149) #[] #[]] w fun e w' => e = .returned (.tuple #[]) ∧ Kd.R k32 32 w' w0.heap.size (fun k_ => (P0_ k_ ∨ w.heap.size ≤ k_)) u9000_ r ∧ Below w0.heap.size w0 w' ∧ Kept w w' (fun k_ => P0_ k_) := by
  unfold api_SEdge_148.f at h
  split at h
  case isFalse => cases h
  case isTrue hl =>
    obtain rfl := Option.some.inj h
    have ho := ho0
    obtain ⟨A, c, e⟩ := Kd.R_slice ho0
    subst e
    obtain ⟨h0, inner, ⟨hil, hor⟩, hr⟩ := ho0
    rcases hor with ⟨e1, e2⟩ | ⟨g, cap, cur, e2, -⟩
    · omega
    · injection e2 with e3 e4 e5
      subst e3 e5
      obtain ⟨-, hg, hbg, hok, hH⟩ := R_holds (d := k32) (enc := enc32) (by decide) (fun _ _ _ _ _ h => enc32_of h) ho
      have hcon := AnyQ.slices_SortFunc_total Try.sortEdges 4 isAgg32 sizeOf32 enc32 (fun _ => rfl) (fun x v hv => by simp [enc32] at hv; rcases hv with rfl | rfl | rfl | rfl <;> rfl) cf32 swo32 149 #[] g 0 c l0.toArray w
        (enters_of Try.func149 (by kernel_rfl) rfl) (cmpLays149 _ _ _ _) hH hg (by simp; omega) total32
      have e6 : l0.toArray.size = l0.length := by simp
      rw [e6] at hcon
      change Calls Try.prog 148 _ _ _ at hcon
      refine hcon.mono ?_
      rintro e w' ⟨he, n, os, rfl⟩
      have hsz : (sort32 l0).toArray.size = l0.length := by simp [sort32]
      refine ⟨he, ?_, below_sort hB hbg _ _ _ _, kept_sort hok _ _ _ _⟩
      have := R_of_sort (d := k32) (enc := enc32) (by decide) (fun _ => rfl) (fun w base ok x => k32_mkM w base ok x) ho (sort32 l0).toArray hsz n os
      exact Kd.R_mono this (fun k hk => .inl hk)
end Go.Proofs.Ytflpelbhalndcaa.QV
