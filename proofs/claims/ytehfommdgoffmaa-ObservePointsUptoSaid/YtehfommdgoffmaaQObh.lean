/- The contracts of the two instances of observe.sorted, for every row of at most 2^42 facts: the sorted row without doubles. -/
import Derived.Test.YtehfommdgoffmaaQObsx0
import Derived.Test.YtehfommdgoffmaaQObk
import Derived.Test.YtehfommdgoffmaaCmp
import Derived.Test.YtehfommdgoffmaaBridge
import Derived.Test.YtehfommdgoffmaaShelfP
import Derived.Shelf.SlSortCmp.NoneTotal
namespace Go.Proofs.Ytehfommdgoffmaa.QObs
open Go.RowKit Go.Shelf Go.Lib Go.Sort Go.Proofs.Ytehfommdgoffmaa.RowK Go.Proofs.Ytehfommdgoffmaa.Cmp Go.Proofs.Ytehfommdgoffmaa.Bridge Go.Proofs.YtehfommdgoffmaaW.PrintWords Go.Proofs.YtehfommdgoffmaaW.PrintLast Go.Proofs.YtehfommdgoffmaaW.PrintMore
attribute [local go_sem] max2_int min2_int max_two min_two max_three min_three max_four min_four   -- for this text's walks alone
set_option linter.unusedVariables false
set_option linter.unusedSimpArgs false

namespace Gv
theorem ins41 (s f : Value) (n : Int) (w : World) (h0 : n = 0 ∨ n = 1) : Calls Try.prog 41 #[s, .int .i64 0, .int .i64 n, f] w fun e w' => e = .returned (.tuple #[]) ∧ w' = w := by
  rcases h0 with rfl | rfl
  all_goals
    go_enter Try.func41, Try.ntmps41
    go_wp2
    go_loop [8] (fun i => i = .int .i64 1) (fun i => 0)
    case atStart => rfl
    case round => 
      subst hrel
      go_wp2
      go_end0
      exact ⟨rfl, rfl⟩

theorem pdq38 (s f : Value) (n l : Int) (w : World) (h0 : n = 0 ∨ n = 1) : Calls Try.prog 38 #[s, .int .i64 0, .int .i64 n, .int .i64 l, f] w fun e w' => e = .returned (.tuple #[]) ∧ w' = w := by
  have c := ins41 s f n w h0
  rcases h0 with rfl | rfl
  · go_enter Try.func38, Try.ntmps38
    go_wp2
    go_loop [1, 2] (fun a b => a = .int .i64 0 ∧ b = .int .i64 0) (fun _ _ => 0)
    case atStart => exact ⟨rfl, rfl⟩
    case round =>
      obtain ⟨rfl, rfl⟩ := hrel
      go_wp2_with (go_at_call 41; refine c.mono ?_; rintro e w' ⟨rfl, rfl⟩)
      (try simp only [Exit.inBlock, Exit.then])
      refine bodyPost_ret (results_none rfl _ _ _) rfl ?_
      exact ⟨rfl, rfl⟩
  · go_enter Try.func38, Try.ntmps38
    go_wp2
    go_loop [1, 2] (fun a b => a = .int .i64 0 ∧ b = .int .i64 1) (fun _ _ => 0)
    case atStart => exact ⟨rfl, rfl⟩
    case round =>
      obtain ⟨rfl, rfl⟩ := hrel
      go_wp2_with (go_at_call 41; refine c.mono ?_; rintro e w' ⟨rfl, rfl⟩)
      (try simp only [Exit.inBlock, Exit.then])
      refine bodyPost_ret (results_none rfl _ _ _) rfl ?_
      exact ⟨rfl, rfl⟩

set_option maxRecDepth 20000 in
theorem len64 (n : Int) (w : World) (h0 : n = 0 ∨ n = 1) : Calls Try.prog 50 #[.int .u64 n] w fun e w' => (∃ v, e = .returned (.int .i64 v)) ∧ w' = w := by
  rcases h0 with rfl | rfl
  all_goals
    go_enter Try.func50, Try.ntmps50
    go_wp2
    go_ret
    exact ⟨⟨_, rfl⟩, rfl⟩

theorem len39 (n : Int) (w : World) (h0 : n = 0 ∨ n = 1) : Calls Try.prog 39 #[.int .u64 n] w fun e w' => (∃ v, e = .returned (.int .i64 v)) ∧ w' = w := by
  go_enter Try.func39, Try.ntmps39
  go_wp2_with (go_at_call 50; refine (len64 n _ h0).mono ?_; rintro e w' ⟨⟨v, rfl⟩, rfl⟩)
  go_ret
  exact ⟨⟨_, rfl⟩, rfl⟩

theorem sort30 (A : Option Addr) (c : Nat) (f : Value) (n : Nat) (w : World) (h0 : n = 0 ∨ n = 1) : Calls Try.prog 30 #[.slice A n c, f] w fun e w' => e = .returned (.tuple #[]) ∧ w' = w := by
  have c1 := len39 n w (by omega)
  have c2 := fun l => pdq38 (.slice A n c) f n l w (by omega)
  rcases h0 with rfl | rfl
  all_goals
    go_enter Try.func30, Try.ntmps30
    go_wp2_with (first | (go_at_call 39; refine c1.mono ?_; rintro e w' ⟨⟨v, rfl⟩, rfl⟩) | (go_at_call 38; refine (c2 _).mono ?_; rintro e w' ⟨rfl, rfl⟩))
    go_end0
    exact ⟨rfl, rfl⟩

theorem compact31 (A : Option Addr) (c : Nat) (n : Nat) (w : World) (h0 : n = 0 ∨ n = 1) : Calls Try.prog 31 #[.slice A n c] w fun e w' => e = .returned (.slice A n c) ∧ w' = w := by
  rcases h0 with rfl | rfl
  all_goals
    go_enter Try.func31, Try.ntmps31
    go_wp2
    go_ret
    exact ⟨rfl, rfl⟩

theorem sorted18 (A : Option Addr) (c : Nat) (f : Value) (n : Nat) (w : World) (h0 : n = 0 ∨ n = 1) : Calls Try.prog 18 #[.slice A n c, f] w fun e w' => e = .returned (.slice A n c) ∧ w' = w := by
  have c1 := sort30 A c f n w h0
  have c2 := compact31 A c n w h0
  go_enter Try.func18, Try.ntmps18
  go_wp2_with (first | (go_at_call 30; refine c1.mono ?_; rintro e w' ⟨rfl, rfl⟩) | (go_at_call 31; refine c2.mono ?_; rintro e w' ⟨rfl, rfl⟩))
  go_ret
  exact ⟨rfl, rfl⟩

theorem ins51 (s f : Value) (n : Int) (w : World) (h0 : n = 0 ∨ n = 1) : Calls Try.prog 51 #[s, .int .i64 0, .int .i64 n, f] w fun e w' => e = .returned (.tuple #[]) ∧ w' = w := by
  rcases h0 with rfl | rfl
  all_goals
    go_enter Try.func51, Try.ntmps51
    go_wp2
    go_loop [8] (fun i => i = .int .i64 1) (fun i => 0)
    case atStart => rfl
    case round => 
      subst hrel
      go_wp2
      go_end0
      exact ⟨rfl, rfl⟩

theorem pdq40 (s f : Value) (n l : Int) (w : World) (h0 : n = 0 ∨ n = 1) : Calls Try.prog 40 #[s, .int .i64 0, .int .i64 n, .int .i64 l, f] w fun e w' => e = .returned (.tuple #[]) ∧ w' = w := by
  have c := ins51 s f n w h0
  rcases h0 with rfl | rfl
  · go_enter Try.func40, Try.ntmps40
    go_wp2
    go_loop [1, 2] (fun a b => a = .int .i64 0 ∧ b = .int .i64 0) (fun _ _ => 0)
    case atStart => exact ⟨rfl, rfl⟩
    case round =>
      obtain ⟨rfl, rfl⟩ := hrel
      go_wp2_with (go_at_call 51; refine c.mono ?_; rintro e w' ⟨rfl, rfl⟩)
      (try simp only [Exit.inBlock, Exit.then])
      refine bodyPost_ret (results_none rfl _ _ _) rfl ?_
      exact ⟨rfl, rfl⟩
  · go_enter Try.func40, Try.ntmps40
    go_wp2
    go_loop [1, 2] (fun a b => a = .int .i64 0 ∧ b = .int .i64 1) (fun _ _ => 0)
    case atStart => exact ⟨rfl, rfl⟩
    case round =>
      obtain ⟨rfl, rfl⟩ := hrel
      go_wp2_with (go_at_call 51; refine c.mono ?_; rintro e w' ⟨rfl, rfl⟩)
      (try simp only [Exit.inBlock, Exit.then])
      refine bodyPost_ret (results_none rfl _ _ _) rfl ?_
      exact ⟨rfl, rfl⟩

theorem sort34 (A : Option Addr) (c : Nat) (f : Value) (n : Nat) (w : World) (h0 : n = 0 ∨ n = 1) : Calls Try.prog 34 #[.slice A n c, f] w fun e w' => e = .returned (.tuple #[]) ∧ w' = w := by
  have c1 := len39 n w (by omega)
  have c2 := fun l => pdq40 (.slice A n c) f n l w (by omega)
  rcases h0 with rfl | rfl
  all_goals
    go_enter Try.func34, Try.ntmps34
    go_wp2_with (first | (go_at_call 39; refine c1.mono ?_; rintro e w' ⟨⟨v, rfl⟩, rfl⟩) | (go_at_call 40; refine (c2 _).mono ?_; rintro e w' ⟨rfl, rfl⟩))
    go_end0
    exact ⟨rfl, rfl⟩

theorem compact35 (A : Option Addr) (c : Nat) (n : Nat) (w : World) (h0 : n = 0 ∨ n = 1) : Calls Try.prog 35 #[.slice A n c] w fun e w' => e = .returned (.slice A n c) ∧ w' = w := by
  rcases h0 with rfl | rfl
  all_goals
    go_enter Try.func35, Try.ntmps35
    go_wp2
    go_ret
    exact ⟨rfl, rfl⟩

theorem sorted23 (A : Option Addr) (c : Nat) (f : Value) (n : Nat) (w : World) (h0 : n = 0 ∨ n = 1) : Calls Try.prog 23 #[.slice A n c, f] w fun e w' => e = .returned (.slice A n c) ∧ w' = w := by
  have c1 := sort34 A c f n w h0
  have c2 := compact35 A c n w h0
  go_enter Try.func23, Try.ntmps23
  go_wp2_with (first | (go_at_call 34; refine c1.mono ?_; rintro e w' ⟨rfl, rfl⟩) | (go_at_call 35; refine c2.mono ?_; rintro e w' ⟨rfl, rfl⟩))
  go_ret
  exact ⟨rfl, rfl⟩
end Gv
open Gv

theorem or_lt (a b : Int) (t : List Int) : orI (cmpI a b :: t) < 0 ↔ (a < b ∨ (a = b ∧ orI t < 0)) := by
  have e : orI (cmpI a b :: t) = if cmpI a b ≠ 0 then cmpI a b else orI t := rfl
  rw [e]
  rcases Int.lt_trichotomy a b with h | h | h
  · have h1 : cmpI a b = -1 := if_pos h
    rw [h1]; simp [h]
  · have h1 : cmpI a b = 0 := by rw [h]; simp [cmpI]
    rw [h1]; simp [h]
  · have h1 : cmpI a b = 1 := by unfold cmpI; rw [if_neg (by omega), if_pos (by omega)]
    rw [h1]; simp; omega
theorem compactUpTo_len {α : Type} [Inhabited α] [DecidableEq α] (d : Array α) : ∀ m, (compactUpTo d m).length ≤ m
  | 0 => by simp [compactUpTo]
  | m + 1 => by
    have := compactUpTo_len d m
    rw [compactUpTo_succ]
    split <;> simp <;> omega
theorem kept_tr {a b c : World} {S : Nat → Prop} (h1 : Kept a b S) (h2 : Kept b c S) : Kept a c S := ⟨Nat.le_trans h1.1 h2.1, fun i hi hn => (h2.2 i (Nat.lt_of_lt_of_le hi h1.1) hn).trans (h1.2 i hi hn)⟩
theorem compact_len {α : Type} [Inhabited α] [DecidableEq α] (l : List α) : (compact l).length ≤ l.length := compactUpTo_len _ _

def cf53 (x y : S53) : Int := orI [cmpI x.f0 y.f0, cmpI x.f1 y.f1, cmpI x.f2 y.f2]
theorem cf53_lt (x y : S53) : cf53 x y < 0 ↔ (x.f0 < y.f0 ∨ (x.f0 = y.f0 ∧ (x.f1 < y.f1 ∨ (x.f1 = y.f1 ∧ (x.f2 < y.f2))))) := by
  unfold cf53
  rw [or_lt, or_lt, or_lt]
  have : ¬ (orI [] < 0) := by simp [orI]
  simp only [this, and_false, or_false]
theorem lt53 (x y : S53) : ltOf cf53 x y = decide (x.f0 < y.f0 ∨ (x.f0 = y.f0 ∧ (x.f1 < y.f1 ∨ (x.f1 = y.f1 ∧ (x.f2 < y.f2))))) := by
  unfold ltOf
  simp only [cf53_lt]
theorem swo53 : SWO (ltOf cf53) where
  irrefl x := by rw [lt53]; simp
  trans x y z h1 h2 := by rw [lt53] at *; simp only [decide_eq_true_eq] at *; omega
  ntrans x y z h1 h2 := by rw [lt53] at *; simp only [decide_eq_false_iff_not] at *; omega
theorem total53 (x y : S53) (h1 : ltOf cf53 x y = false) (h2 : ltOf cf53 y x = false) : x = y := by
  rw [lt53] at *
  simp only [decide_eq_false_iff_not] at *
  cases x
  cases y
  simp only [S53.mk.injEq] at *
  omega
theorem cmpLays19 (blk off size : Nat) (w : World) : CmpLays Try.prog 19 #[] enc53 3 cf53 blk off size w := by
  intro m os dk hdk x y
  refine (nodes x.f0 x.f1 x.f2 y.f0 y.f1 y.f2 _).mono ?_
  rintro e w' ⟨he, hb, hd⟩
  exact ⟨he, grow_of_below hb hd⟩
def sort53 (l : List S53) : List S53 := l.mergeSort fun x y => !(ltOf cf53) y x
theorem enc53_of {w : World} {base : Nat} {ok : Nat → Prop} {x : S53} {cs : List Value} (h : k53.M w base ok x cs) : cs = enc53 x := k53_openM h

def api_PointFact_18.f (l0 : List S53) : Option (List S53) := if l0.length ≤ 1 then some l0 else if l0.length ≤ 4398046511104 then some (compact (sort53 l0)) else none

set_option maxHeartbeats 1000000 in
theorem api_PointFact_18.calls (P0_ : Nat → Prop) (u9000_ : Value) (l0 : List S53) (r : List S53) (w0 w : World) (hB : Below w0.heap.size w0 w) (ho0 : Kd.R k53 53 w w0.heap.size P0_ u9000_ l0) (h : api_PointFact_18.f l0 = some r) :
    Calls Try.prog 18 #[u9000_, .func (.func 19) #[] #[]] w fun e w' => ∃ v0_, e = .returned v0_ ∧ Kd.R k53 53 w' w0.heap.size (fun k_ => (P0_ k_ ∨ w.heap.size ≤ k_)) v0_ r ∧ Below w0.heap.size w0 w' ∧ Kept w w' (fun k_ => P0_ k_) := by
  unfold api_PointFact_18.f at h
  split at h
  case isTrue hl =>
    obtain rfl := Option.some.inj h
    obtain ⟨A, c, e⟩ := Kd.R_slice ho0
    subst e
    refine (sorted18 A c _ l0.length w (by omega)).mono ?_
    rintro e w' ⟨rfl, rfl⟩
    exact ⟨_, rfl, Kd.R_mono ho0 (fun k_ hk => .inl hk), hB, Kept.refl _ _⟩
  case isFalse hl0 =>
    split at h
    case isFalse => cases h
    case isTrue hl =>
    obtain rfl := Option.some.inj h
    have ho := ho0
    obtain ⟨A, c, e⟩ := Kd.R_slice ho0
    subst e
    obtain ⟨h0, inner, ⟨hil, hor⟩, hr⟩ := ho0
    rcases hor with ⟨e1, e2⟩ | ⟨g, cap, cur, e2, hbase, hheap, hcap, hcc, hsize, htake⟩
    · omega
    · injection e2 with e3 e4 e5
      subst e3 e5
      obtain ⟨-, hg, hbg, hok, hH⟩ := R_holds (d := k53) (enc := enc53) (by decide) (fun _ _ _ _ _ h => enc53_of h) ho
      have hcon := AnyQ.slices_SortFunc_total Try.sortPoints 3 isAgg53 sizeOf53 enc53 encl53 enc153 cf53 swo53 19 #[] g 0 c l0.toArray w
        (enters_of Try.func19 (by kernel_rfl) rfl) (cmpLays19 _ _ _ _) hH hg (by simp; omega) total53
      have e6 : l0.toArray.size = l0.length := by simp
      rw [e6] at hcon
      change Calls Try.prog 30 _ _ _ at hcon
      have hsl : (sort53 l0).length = l0.length := by simp [sort53]
      have hsz : (sort53 l0).toArray.size = l0.length := by simp [sort53]
      have hcp : ∀ n os, Calls Try.prog 31 #[.slice (some ⟨g, 0, none⟩) l0.length c] (sortWorldK enc53 3 w g 0 n (sort53 l0).toArray os) fun e w' =>
          ∃ v, e = .returned v ∧ Kd.R k53 53 w' w0.heap.size P0_ v (compact (sort53 l0)) ∧ Below w0.heap.size w0 w' ∧ Kept w w' (fun k_ => P0_ k_) := by
        intro n os
        have hR1 : Kd.R k53 53 (sortWorldK enc53 3 w g 0 n (sort53 l0).toArray os) w0.heap.size P0_ (.slice (some ⟨g, 0, none⟩) l0.length c) (sort53 l0) :=
          R_of_sort (d := k53) (enc := enc53) (by decide) encl53 (fun w base ok x => k53_mkM w base ok x) ho (sort53 l0).toArray hsz n os
        have hB1 := below_sort hB hbg (enc := enc53) 3 n (sort53 l0).toArray os
        have hK1 : Kept w (sortWorldK enc53 3 w g 0 n (sort53 l0).toArray os) (fun k_ => P0_ k_) := kept_sort hok 3 n (sort53 l0).toArray os
        generalize sortWorldK enc53 3 w g 0 n (sort53 l0).toArray os = w1 at hR1 hB1 hK1
        rw [← hsl] at hR1
        obtain ⟨-, hg1, -, -, hH1⟩ := R_holds (d := k53) (enc := enc53) (by decide) (fun _ _ _ _ _ h => enc53_of h) hR1
        have hc := compact31 g 0 c (sort53 l0).toArray w1 hH1 (by omega) (by omega)
        rw [hsz] at hc
        refine hc.mono ?_
        rintro e w' ⟨rfl, q, rfl⟩
        have e7 : compactUpTo (sort53 l0).toArray l0.length = compact (sort53 l0) := by unfold compact; rw [hsl]
        rw [e7]
        have hle : (compact (sort53 l0)).length ≤ l0.length := by rw [← hsl]; exact compact_len _
        generalize hcd : compact (sort53 l0) = cd at hle
        have hsz2 : (cd ++ List.replicate (l0.length - cd.length) z53).toArray.size = (sort53 l0).length := by simp; omega
        have hR2 := R_of_put (w' := w1) (d := k53) (enc := enc53) (by decide) encl53 (fun w base ok x => k53_mkM w base ok x) hR1 (cd ++ List.replicate (l0.length - cd.length) z53).toArray hsz2 q cd.length (by omega)
        refine ⟨_, rfl, ?_, below_put hB1 hbg 3 q _, kept_tr hK1 (kept_put hok 3 q _)⟩
        have e8 : (cd ++ List.replicate (l0.length - cd.length) z53).toArray.toList.take cd.length = cd := by simp
        rw [e8] at hR2
        exact hR2
      go_enter Try.func18, Try.ntmps18
      go_wp2_with (first | (go_at_call 30; refine hcon.mono ?_; rintro e w1 ⟨rfl, n, os, rfl⟩) | (go_at_call 31; refine (hcp _ _).mono ?_; rintro e w2 ⟨v, rfl, hR, hB2, hK2⟩))
      go_ret
      exact ⟨_, rfl, Kd.R_mono hR (fun k_ hk => .inl hk), hB2, hK2⟩


def cf32 (x y : S32) : Int := orI [cmpI x.f0 y.f0, cmpI x.f1 y.f1, cmpI x.f2 y.f2, cmpI x.f3 y.f3]
theorem cf32_lt (x y : S32) : cf32 x y < 0 ↔ (x.f0 < y.f0 ∨ (x.f0 = y.f0 ∧ (x.f1 < y.f1 ∨ (x.f1 = y.f1 ∧ (x.f2 < y.f2 ∨ (x.f2 = y.f2 ∧ (x.f3 < y.f3))))))) := by
  unfold cf32
  rw [or_lt, or_lt, or_lt, or_lt]
  have : ¬ (orI [] < 0) := by simp [orI]
  simp only [this, and_false, or_false]
theorem lt32 (x y : S32) : ltOf cf32 x y = decide (x.f0 < y.f0 ∨ (x.f0 = y.f0 ∧ (x.f1 < y.f1 ∨ (x.f1 = y.f1 ∧ (x.f2 < y.f2 ∨ (x.f2 = y.f2 ∧ (x.f3 < y.f3))))))) := by
  unfold ltOf
  simp only [cf32_lt]
theorem swo32 : SWO (ltOf cf32) where
  irrefl x := by rw [lt32]; simp
  trans x y z h1 h2 := by rw [lt32] at *; simp only [decide_eq_true_eq] at *; omega
  ntrans x y z h1 h2 := by rw [lt32] at *; simp only [decide_eq_false_iff_not] at *; omega
theorem total32 (x y : S32) (h1 : ltOf cf32 x y = false) (h2 : ltOf cf32 y x = false) : x = y := by
  rw [lt32] at *
  simp only [decide_eq_false_iff_not] at *
  cases x
  cases y
  simp only [S32.mk.injEq] at *
  omega
theorem cmpLays24 (blk off size : Nat) (w : World) : CmpLays Try.prog 24 #[] enc32 4 cf32 blk off size w := by
  intro m os dk hdk x y
  refine (edges x.f0 x.f1 x.f2 x.f3 y.f0 y.f1 y.f2 y.f3 _).mono ?_
  rintro e w' ⟨he, hb, hd⟩
  exact ⟨he, grow_of_below hb hd⟩
def sort32 (l : List S32) : List S32 := l.mergeSort fun x y => !(ltOf cf32) y x
theorem enc32_of {w : World} {base : Nat} {ok : Nat → Prop} {x : S32} {cs : List Value} (h : k32.M w base ok x cs) : cs = enc32 x := k32_openM h

def api_IntFact_23.f (l0 : List S32) : Option (List S32) := if l0.length ≤ 1 then some l0 else if l0.length ≤ 4398046511104 then some (compact (sort32 l0)) else none

set_option maxHeartbeats 1000000 in
theorem api_IntFact_23.calls (P0_ : Nat → Prop) (u9000_ : Value) (l0 : List S32) (r : List S32) (w0 w : World) (hB : Below w0.heap.size w0 w) (ho0 : Kd.R k32 32 w w0.heap.size P0_ u9000_ l0) (h : api_IntFact_23.f l0 = some r) :
    Calls Try.prog 23 #[u9000_, .func (.func 24) #[] #[]] w fun e w' => ∃ v0_, e = .returned v0_ ∧ Kd.R k32 32 w' w0.heap.size (fun k_ => (P0_ k_ ∨ w.heap.size ≤ k_)) v0_ r ∧ Below w0.heap.size w0 w' ∧ Kept w w' (fun k_ => P0_ k_) := by
  unfold api_IntFact_23.f at h
  split at h
  case isTrue hl =>
    obtain rfl := Option.some.inj h
    obtain ⟨A, c, e⟩ := Kd.R_slice ho0
    subst e
    refine (sorted23 A c _ l0.length w (by omega)).mono ?_
    rintro e w' ⟨rfl, rfl⟩
    exact ⟨_, rfl, Kd.R_mono ho0 (fun k_ hk => .inl hk), hB, Kept.refl _ _⟩
  case isFalse hl0 =>
    split at h
    case isFalse => cases h
    case isTrue hl =>
    obtain rfl := Option.some.inj h
    have ho := ho0
    obtain ⟨A, c, e⟩ := Kd.R_slice ho0
    subst e
    obtain ⟨h0, inner, ⟨hil, hor⟩, hr⟩ := ho0
    rcases hor with ⟨e1, e2⟩ | ⟨g, cap, cur, e2, hbase, hheap, hcap, hcc, hsize, htake⟩
    · omega
    · injection e2 with e3 e4 e5
      subst e3 e5
      obtain ⟨-, hg, hbg, hok, hH⟩ := R_holds (d := k32) (enc := enc32) (by decide) (fun _ _ _ _ _ h => enc32_of h) ho
      have hcon := AnyQ.slices_SortFunc_total Try.sortInts 4 isAgg32 sizeOf32 enc32 encl32 enc132 cf32 swo32 24 #[] g 0 c l0.toArray w
        (enters_of Try.func24 (by kernel_rfl) rfl) (cmpLays24 _ _ _ _) hH hg (by simp; omega) total32
      have e6 : l0.toArray.size = l0.length := by simp
      rw [e6] at hcon
      change Calls Try.prog 34 _ _ _ at hcon
      have hsl : (sort32 l0).length = l0.length := by simp [sort32]
      have hsz : (sort32 l0).toArray.size = l0.length := by simp [sort32]
      have hcp : ∀ n os, Calls Try.prog 35 #[.slice (some ⟨g, 0, none⟩) l0.length c] (sortWorldK enc32 4 w g 0 n (sort32 l0).toArray os) fun e w' =>
          ∃ v, e = .returned v ∧ Kd.R k32 32 w' w0.heap.size P0_ v (compact (sort32 l0)) ∧ Below w0.heap.size w0 w' ∧ Kept w w' (fun k_ => P0_ k_) := by
        intro n os
        have hR1 : Kd.R k32 32 (sortWorldK enc32 4 w g 0 n (sort32 l0).toArray os) w0.heap.size P0_ (.slice (some ⟨g, 0, none⟩) l0.length c) (sort32 l0) :=
          R_of_sort (d := k32) (enc := enc32) (by decide) encl32 (fun w base ok x => k32_mkM w base ok x) ho (sort32 l0).toArray hsz n os
        have hB1 := below_sort hB hbg (enc := enc32) 4 n (sort32 l0).toArray os
        have hK1 : Kept w (sortWorldK enc32 4 w g 0 n (sort32 l0).toArray os) (fun k_ => P0_ k_) := kept_sort hok 4 n (sort32 l0).toArray os
        generalize sortWorldK enc32 4 w g 0 n (sort32 l0).toArray os = w1 at hR1 hB1 hK1
        rw [← hsl] at hR1
        obtain ⟨-, hg1, -, -, hH1⟩ := R_holds (d := k32) (enc := enc32) (by decide) (fun _ _ _ _ _ h => enc32_of h) hR1
        have hc := compact35 g 0 c (sort32 l0).toArray w1 hH1 (by omega) (by omega)
        rw [hsz] at hc
        refine hc.mono ?_
        rintro e w' ⟨rfl, q, rfl⟩
        have e7 : compactUpTo (sort32 l0).toArray l0.length = compact (sort32 l0) := by unfold compact; rw [hsl]
        rw [e7]
        have hle : (compact (sort32 l0)).length ≤ l0.length := by rw [← hsl]; exact compact_len _
        generalize hcd : compact (sort32 l0) = cd at hle
        have hsz2 : (cd ++ List.replicate (l0.length - cd.length) z32).toArray.size = (sort32 l0).length := by simp; omega
        have hR2 := R_of_put (w' := w1) (d := k32) (enc := enc32) (by decide) encl32 (fun w base ok x => k32_mkM w base ok x) hR1 (cd ++ List.replicate (l0.length - cd.length) z32).toArray hsz2 q cd.length (by omega)
        refine ⟨_, rfl, ?_, below_put hB1 hbg 4 q _, kept_tr hK1 (kept_put hok 4 q _)⟩
        have e8 : (cd ++ List.replicate (l0.length - cd.length) z32).toArray.toList.take cd.length = cd := by simp
        rw [e8] at hR2
        exact hR2
      go_enter Try.func23, Try.ntmps23
      go_wp2_with (first | (go_at_call 34; refine hcon.mono ?_; rintro e w1 ⟨rfl, n, os, rfl⟩) | (go_at_call 35; refine (hcp _ _).mono ?_; rintro e w2 ⟨v, rfl, hR, hB2, hK2⟩))
      go_ret
      exact ⟨_, rfl, Kd.R_mono hR (fun k_ hk => .inl hk), hB2, hK2⟩

end Go.Proofs.Ytehfommdgoffmaa.QObs
