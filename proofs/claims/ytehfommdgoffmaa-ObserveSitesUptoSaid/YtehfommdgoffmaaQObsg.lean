/- The contracts of the two instances of observe.sorted at lists of at most one element, for every world. No condition. -/
import Derived.Test.YtehfommdgoffmaaQObsx0
namespace Go.Proofs.Ytehfommdgoffmaa.QObs
open Go.RowKit Go.Proofs.YtehfommdgoffmaaW.PrintWords Go.Proofs.YtehfommdgoffmaaW.PrintLast Go.Proofs.YtehfommdgoffmaaW.PrintMore
attribute [local go_sem] max2_int min2_int max_two min_two max_three min_three max_four min_four   -- for this text's walks alone
set_option linter.unusedVariables false
set_option linter.unusedSimpArgs false

namespace Gv
theorem ins41 (s f : Value) (n : Int) (w : World) (h0 : n = 0 ∨ n = 1) : Calls Try.prog 41 #[s, .int .i64 0, .int .i64 n, f] w fun e w' => e = .returned (.tuple #[]) ∧ w' = w := by
  rcases h0 with rfl | rfl
  all_goals
    go_enter Try.func41, Try.ntmps41
    go_wp2
    go_loop [8] (fun i => i = .int .i64 1) (fun i => 0)
    case atStart => rfl
    case round => 
      subst hrel
      go_wp2
      go_end0
      exact ⟨rfl, rfl⟩

theorem pdq38 (s f : Value) (n l : Int) (w : World) (h0 : n = 0 ∨ n = 1) : Calls Try.prog 38 #[s, .int .i64 0, .int .i64 n, .int .i64 l, f] w fun e w' => e = .returned (.tuple #[]) ∧ w' = w := by
  have c := ins41 s f n w h0
  rcases h0 with rfl | rfl
  · go_enter Try.func38, Try.ntmps38
    go_wp2
    go_loop [1, 2] (fun a b => a = .int .i64 0 ∧ b = .int .i64 0) (fun _ _ => 0)
    case atStart => exact ⟨rfl, rfl⟩
    case round =>
      obtain ⟨rfl, rfl⟩ := hrel
      go_wp2_with (go_at_call 41; refine c.mono ?_; rintro e w' ⟨rfl, rfl⟩)
      (try simp only [Exit.inBlock, Exit.then])
      refine bodyPost_ret (results_none rfl _ _ _) rfl ?_
      exact ⟨rfl, rfl⟩
  · go_enter Try.func38, Try.ntmps38
    go_wp2
    go_loop [1, 2] (fun a b => a = .int .i64 0 ∧ b = .int .i64 1) (fun _ _ => 0)
    case atStart => exact ⟨rfl, rfl⟩
    case round =>
      obtain ⟨rfl, rfl⟩ := hrel
      go_wp2_with (go_at_call 41; refine c.mono ?_; rintro e w' ⟨rfl, rfl⟩)
      (try simp only [Exit.inBlock, Exit.then])
      refine bodyPost_ret (results_none rfl _ _ _) rfl ?_
      exact ⟨rfl, rfl⟩

set_option maxRecDepth 20000 in
theorem len64 (n : Int) (w : World) (h0 : n = 0 ∨ n = 1) : Calls Try.prog 50 #[.int .u64 n] w fun e w' => (∃ v, e = .returned (.int .i64 v)) ∧ w' = w := by
  rcases h0 with rfl | rfl
  all_goals
    go_enter Try.func50, Try.ntmps50
    go_wp2
    go_ret
    exact ⟨⟨_, rfl⟩, rfl⟩

theorem len39 (n : Int) (w : World) (h0 : n = 0 ∨ n = 1) : Calls Try.prog 39 #[.int .u64 n] w fun e w' => (∃ v, e = .returned (.int .i64 v)) ∧ w' = w := by
  go_enter Try.func39, Try.ntmps39
  go_wp2_with (go_at_call 50; refine (len64 n _ h0).mono ?_; rintro e w' ⟨⟨v, rfl⟩, rfl⟩)
  go_ret
  exact ⟨⟨_, rfl⟩, rfl⟩

theorem sort30 (A : Option Addr) (c : Nat) (f : Value) (n : Nat) (w : World) (h0 : n = 0 ∨ n = 1) : Calls Try.prog 30 #[.slice A n c, f] w fun e w' => e = .returned (.tuple #[]) ∧ w' = w := by
  have c1 := len39 n w (by omega)
  have c2 := fun l => pdq38 (.slice A n c) f n l w (by omega)
  rcases h0 with rfl | rfl
  all_goals
    go_enter Try.func30, Try.ntmps30
    go_wp2_with (first | (go_at_call 39; refine c1.mono ?_; rintro e w' ⟨⟨v, rfl⟩, rfl⟩) | (go_at_call 38; refine (c2 _).mono ?_; rintro e w' ⟨rfl, rfl⟩))
    go_end0
    exact ⟨rfl, rfl⟩

theorem compact31 (A : Option Addr) (c : Nat) (n : Nat) (w : World) (h0 : n = 0 ∨ n = 1) : Calls Try.prog 31 #[.slice A n c] w fun e w' => e = .returned (.slice A n c) ∧ w' = w := by
  rcases h0 with rfl | rfl
  all_goals
    go_enter Try.func31, Try.ntmps31
    go_wp2
    go_ret
    exact ⟨rfl, rfl⟩

theorem sorted18 (A : Option Addr) (c : Nat) (f : Value) (n : Nat) (w : World) (h0 : n = 0 ∨ n = 1) : Calls Try.prog 18 #[.slice A n c, f] w fun e w' => e = .returned (.slice A n c) ∧ w' = w := by
  have c1 := sort30 A c f n w h0
  have c2 := compact31 A c n w h0
  go_enter Try.func18, Try.ntmps18
  go_wp2_with (first | (go_at_call 30; refine c1.mono ?_; rintro e w' ⟨rfl, rfl⟩) | (go_at_call 31; refine c2.mono ?_; rintro e w' ⟨rfl, rfl⟩))
  go_ret
  exact ⟨rfl, rfl⟩

theorem ins51 (s f : Value) (n : Int) (w : World) (h0 : n = 0 ∨ n = 1) : Calls Try.prog 51 #[s, .int .i64 0, .int .i64 n, f] w fun e w' => e = .returned (.tuple #[]) ∧ w' = w := by
  rcases h0 with rfl | rfl
  all_goals
    go_enter Try.func51, Try.ntmps51
    go_wp2
    go_loop [8] (fun i => i = .int .i64 1) (fun i => 0)
    case atStart => rfl
    case round => 
      subst hrel
      go_wp2
      go_end0
      exact ⟨rfl, rfl⟩

theorem pdq40 (s f : Value) (n l : Int) (w : World) (h0 : n = 0 ∨ n = 1) : Calls Try.prog 40 #[s, .int .i64 0, .int .i64 n, .int .i64 l, f] w fun e w' => e = .returned (.tuple #[]) ∧ w' = w := by
  have c := ins51 s f n w h0
  rcases h0 with rfl | rfl
  · go_enter Try.func40, Try.ntmps40
    go_wp2
    go_loop [1, 2] (fun a b => a = .int .i64 0 ∧ b = .int .i64 0) (fun _ _ => 0)
    case atStart => exact ⟨rfl, rfl⟩
    case round =>
      obtain ⟨rfl, rfl⟩ := hrel
      go_wp2_with (go_at_call 51; refine c.mono ?_; rintro e w' ⟨rfl, rfl⟩)
      (try simp only [Exit.inBlock, Exit.then])
      refine bodyPost_ret (results_none rfl _ _ _) rfl ?_
      exact ⟨rfl, rfl⟩
  · go_enter Try.func40, Try.ntmps40
    go_wp2
    go_loop [1, 2] (fun a b => a = .int .i64 0 ∧ b = .int .i64 1) (fun _ _ => 0)
    case atStart => exact ⟨rfl, rfl⟩
    case round =>
      obtain ⟨rfl, rfl⟩ := hrel
      go_wp2_with (go_at_call 51; refine c.mono ?_; rintro e w' ⟨rfl, rfl⟩)
      (try simp only [Exit.inBlock, Exit.then])
      refine bodyPost_ret (results_none rfl _ _ _) rfl ?_
      exact ⟨rfl, rfl⟩

theorem sort34 (A : Option Addr) (c : Nat) (f : Value) (n : Nat) (w : World) (h0 : n = 0 ∨ n = 1) : Calls Try.prog 34 #[.slice A n c, f] w fun e w' => e = .returned (.tuple #[]) ∧ w' = w := by
  have c1 := len39 n w (by omega)
  have c2 := fun l => pdq40 (.slice A n c) f n l w (by omega)
  rcases h0 with rfl | rfl
  all_goals
    go_enter Try.func34, Try.ntmps34
    go_wp2_with (first | (go_at_call 39; refine c1.mono ?_; rintro e w' ⟨⟨v, rfl⟩, rfl⟩) | (go_at_call 40; refine (c2 _).mono ?_; rintro e w' ⟨rfl, rfl⟩))
    go_end0
    exact ⟨rfl, rfl⟩

theorem compact35 (A : Option Addr) (c : Nat) (n : Nat) (w : World) (h0 : n = 0 ∨ n = 1) : Calls Try.prog 35 #[.slice A n c] w fun e w' => e = .returned (.slice A n c) ∧ w' = w := by
  rcases h0 with rfl | rfl
  all_goals
    go_enter Try.func35, Try.ntmps35
    go_wp2
    go_ret
    exact ⟨rfl, rfl⟩

theorem sorted23 (A : Option Addr) (c : Nat) (f : Value) (n : Nat) (w : World) (h0 : n = 0 ∨ n = 1) : Calls Try.prog 23 #[.slice A n c, f] w fun e w' => e = .returned (.slice A n c) ∧ w' = w := by
  have c1 := sort34 A c f n w h0
  have c2 := compact35 A c n w h0
  go_enter Try.func23, Try.ntmps23
  go_wp2_with (first | (go_at_call 34; refine c1.mono ?_; rintro e w' ⟨rfl, rfl⟩) | (go_at_call 35; refine c2.mono ?_; rintro e w' ⟨rfl, rfl⟩))
  go_ret
  exact ⟨rfl, rfl⟩
end Gv
open Gv
def api_PointFact_18.f (l0 : List S53) : Option (List S53) := if l0.length ≤ 1 then some l0 else none

theorem api_PointFact_18.calls (P0_ : Nat → Prop) (u9000_ : Value) (l0 : List S53) (r : List S53) (w0 w : World) (hB : Below w0.heap.size w0 w) (ho0 : Kd.R k53 53 w w0.heap.size P0_ u9000_ l0) (h : api_PointFact_18.f l0 = some r) :
    Calls Try.prog 18 #[u9000_, .func (.func 19) #[] #[]] w fun e w' => ∃ v0_, e = .returned v0_ ∧ Kd.R k53 53 w' w0.heap.size (fun k_ => (P0_ k_ ∨ w.heap.size ≤ k_)) v0_ r ∧ Below w0.heap.size w0 w' ∧ Kept w w' (fun k_ => P0_ k_) := by
  unfold api_PointFact_18.f at h
  split at h
  case isFalse => cases h
  case isTrue hl =>
    obtain rfl := Option.some.inj h
    obtain ⟨A, c, e⟩ := Kd.R_slice ho0
    subst e
    refine (sorted18 A c _ l0.length w (by omega)).mono ?_
    rintro e w' ⟨rfl, rfl⟩
    exact ⟨_, rfl, Kd.R_mono ho0 (fun k_ hk => .inl hk), hB, Kept.refl _ _⟩

def api_IntFact_23.f (l0 : List S32) : Option (List S32) := if l0.length ≤ 1 then some l0 else none

theorem api_IntFact_23.calls (P0_ : Nat → Prop) (u9000_ : Value) (l0 : List S32) (r : List S32) (w0 w : World) (hB : Below w0.heap.size w0 w) (ho0 : Kd.R k32 32 w w0.heap.size P0_ u9000_ l0) (h : api_IntFact_23.f l0 = some r) :
    Calls Try.prog 23 #[u9000_, .func (.func 24) #[] #[]] w fun e w' => ∃ v0_, e = .returned v0_ ∧ Kd.R k32 32 w' w0.heap.size (fun k_ => (P0_ k_ ∨ w.heap.size ≤ k_)) v0_ r ∧ Below w0.heap.size w0 w' ∧ Kept w w' (fun k_ => P0_ k_) := by
  unfold api_IntFact_23.f at h
  split at h
  case isFalse => cases h
  case isTrue hl =>
    obtain rfl := Option.some.inj h
    obtain ⟨A, c, e⟩ := Kd.R_slice ho0
    subst e
    refine (sorted23 A c _ l0.length w (by omega)).mono ?_
    rintro e w' ⟨rfl, rfl⟩
    exact ⟨_, rfl, Kd.R_mono ho0 (fun k_ hk => .inl hk), hB, Kept.refl _ _⟩

end Go.Proofs.Ytehfommdgoffmaa.QObs
