-- By a program of this session, out of the translation's own print.
import Derived.Test.YtflpelbhalndcaaQVg
import Derived.Test.YtflpelbhalndcaaQVx0
import Derived.Test.YtflpelbhalndcaaQVx1
import Derived.Test.YtflpelbhalndcaaQVx3
namespace Go.Proofs.Ytflpelbhalndcaa.QV
open Go.RowKit Go.Proofs.YtflpelbhalndcaaW.PrintWords Go.Proofs.YtflpelbhalndcaaW.PrintLast Go.Proofs.YtflpelbhalndcaaW.PrintMore
attribute [local go_sem] max2_int min2_int max_two min_two max_three min_three max_four min_four   -- for this text's walks alone
set_option linter.unusedVariables false
set_option linter.unusedSimpArgs false

/-! ### super_checkEdge: function 112 -/
mutual
def super_checkEdge.j0 : Nat → Int → Int → Bool → List (S35) → List (S32) → Int → Int → Int → Int → Int → Option (Int)
 | 0, _, _, _, _, _, _, _, _, _, _ => none
 | k + 1, x1, x6, x35, x142000, x142001, x142002, x144000, x144001, x144002, x144003 => if x35 = true then (some 4) else (if x144002 < 1 then (super_checkEdge.j1 k x1 x6 true x142000 x142001 x142002 x144000 x144001 x144002 x144003) else (super_checkEdge.j1 k x1 x6 (decide (x144002 > 5)) x142000 x142001 x142002 x144000 x144001 x144002 x144003))
def super_checkEdge.j1 : Nat → Int → Int → Bool → List (S35) → List (S32) → Int → Int → Int → Int → Int → Option (Int)
 | 0, _, _, _, _, _, _, _, _, _, _ => none
 | k + 1, x1, x6, x43, x142000, x142001, x142002, x144000, x144001, x144002, x144003 => if x43 = true then (some 12) else (if x144002 = 1 then (super_checkEdge.j2 k x1 x6 true x142000 x142001 x142002 x144000 x144001 x144002 x144003) else (super_checkEdge.j2 k x1 x6 (x144002 == 5) x142000 x142001 x142002 x144000 x144001 x144002 x144003))
def super_checkEdge.j2 : Nat → Int → Int → Bool → List (S35) → List (S32) → Int → Int → Int → Int → Int → Option (Int)
 | 0, _, _, _, _, _, _, _, _, _, _ => none
 | k + 1, x1, x6, x7, x142000, x142001, x142002, x144000, x144001, x144002, x144003 => if x7 = true then (if x144003 = (-1) then (super_checkEdge.j3 k x1 false x142000 x142001 x142002 x144000 x144001 x144002 x144003) else (super_checkEdge.j3 k x1 true x142000 x142001 x142002 x144000 x144001 x144002 x144003)) else (if x144003 < 0 then (super_checkEdge.j3 k x1 true x142000 x142001 x142002 x144000 x144001 x144002 x144003) else (super_checkEdge.j3 k x1 (decide (x144003 ≥ x6)) x142000 x142001 x142002 x144000 x144001 x144002 x144003))
def super_checkEdge.j3 : Nat → Int → Bool → List (S35) → List (S32) → Int → Int → Int → Int → Int → Option (Int)
 | 0, _, _, _, _, _, _, _, _, _ => none
 | k + 1, x1, x52, x142000, x142001, x142002, x144000, x144001, x144002, x144003 => if x52 = true then (some 4) else (if x1 > 0 then (if 0 ≤ (wrap64 (x1 - 1)) then (if (wrap64 (x1 - 1)) < (x142001.length : Int) then ((super_compareEdges.f k ((rd_T32 x142001 (wrap64 (x1 - 1))).f0) ((rd_T32 x142001 (wrap64 (x1 - 1))).f1) ((rd_T32 x142001 (wrap64 (x1 - 1))).f2) ((rd_T32 x142001 (wrap64 (x1 - 1))).f3) x144000 x144001 x144002 x144003).bind fun t145 => (super_checkEdge.j4 k (decide (t145 ≥ 0)) x142000 x142001 x142002 x144000 x144001 x144002 x144003)) else (none)) else (none)) else (super_checkEdge.j4 k false x142000 x142001 x142002 x144000 x144001 x144002 x144003))
def super_checkEdge.j4 : Nat → Bool → List (S35) → List (S32) → Int → Int → Int → Int → Int → Option (Int)
 | 0, _, _, _, _, _, _, _, _ => none
 | k + 1, x74, x142000, x142001, x142002, x144000, x144001, x144002, x144003 => if x74 = true then (some 13) else ((super_fits.f k x142000 x142001 x142002 x144000 x144001 x144002 x144003).bind fun t146 => (if t146 = true then (some 0) else (some 20)))
end
def super_checkEdge.f (k : Nat) (l0_0 : List (S35)) (l0_1 : List (S32)) (a0_2 : Int) (a1 : Int) : Option (Int) := if 0 ≤ a1 then (if a1 < (l0_1.length : Int) then (if ((rd_T32 l0_1 a1).f0) < 0 then (super_checkEdge.j0 k a1 (l0_0.length : Int) true l0_0 l0_1 a0_2 ((rd_T32 l0_1 a1).f0) ((rd_T32 l0_1 a1).f1) ((rd_T32 l0_1 a1).f2) ((rd_T32 l0_1 a1).f3)) else (if ((rd_T32 l0_1 a1).f0) ≥ (l0_0.length : Int) then (super_checkEdge.j0 k a1 (l0_0.length : Int) true l0_0 l0_1 a0_2 ((rd_T32 l0_1 a1).f0) ((rd_T32 l0_1 a1).f1) ((rd_T32 l0_1 a1).f2) ((rd_T32 l0_1 a1).f3)) else (if ((rd_T32 l0_1 a1).f1) < 0 then (super_checkEdge.j0 k a1 (l0_0.length : Int) true l0_0 l0_1 a0_2 ((rd_T32 l0_1 a1).f0) ((rd_T32 l0_1 a1).f1) ((rd_T32 l0_1 a1).f2) ((rd_T32 l0_1 a1).f3)) else (super_checkEdge.j0 k a1 (l0_0.length : Int) (decide (((rd_T32 l0_1 a1).f1) ≥ (l0_0.length : Int))) l0_0 l0_1 a0_2 ((rd_T32 l0_1 a1).f0) ((rd_T32 l0_1 a1).f1) ((rd_T32 l0_1 a1).f2) ((rd_T32 l0_1 a1).f3))))) else (none)) else (none)
theorem super_checkEdge.mono_l : ∀ k, (∀ y0 y1 y2 y3 y4 y5 y6 y7 y8 y9, LeO (super_checkEdge.j0 k y0 y1 y2 y3 y4 y5 y6 y7 y8 y9) (super_checkEdge.j0 (k + 1) y0 y1 y2 y3 y4 y5 y6 y7 y8 y9)) ∧ (∀ y0 y1 y2 y3 y4 y5 y6 y7 y8 y9, LeO (super_checkEdge.j1 k y0 y1 y2 y3 y4 y5 y6 y7 y8 y9) (super_checkEdge.j1 (k + 1) y0 y1 y2 y3 y4 y5 y6 y7 y8 y9)) ∧ (∀ y0 y1 y2 y3 y4 y5 y6 y7 y8 y9, LeO (super_checkEdge.j2 k y0 y1 y2 y3 y4 y5 y6 y7 y8 y9) (super_checkEdge.j2 (k + 1) y0 y1 y2 y3 y4 y5 y6 y7 y8 y9)) ∧ (∀ y0 y1 y2 y3 y4 y5 y6 y7 y8, LeO (super_checkEdge.j3 k y0 y1 y2 y3 y4 y5 y6 y7 y8) (super_checkEdge.j3 (k + 1) y0 y1 y2 y3 y4 y5 y6 y7 y8)) ∧ (∀ y0 y1 y2 y3 y4 y5 y6 y7, LeO (super_checkEdge.j4 k y0 y1 y2 y3 y4 y5 y6 y7) (super_checkEdge.j4 (k + 1) y0 y1 y2 y3 y4 y5 y6 y7))
 | 0 => ⟨fun _ _ _ _ _ _ _ _ _ _ r h => by simp [super_checkEdge.j0] at h, fun _ _ _ _ _ _ _ _ _ _ r h => by simp [super_checkEdge.j1] at h, fun _ _ _ _ _ _ _ _ _ _ r h => by simp [super_checkEdge.j2] at h, fun _ _ _ _ _ _ _ _ _ r h => by simp [super_checkEdge.j3] at h, fun _ _ _ _ _ _ _ _ r h => by simp [super_checkEdge.j4] at h⟩
 | k + 1 => by
  obtain ⟨ih0, ih1, ih2, ih3, ih4⟩ := super_checkEdge.mono_l k
  refine ⟨?_, ?_, ?_, ?_, ?_⟩
  ·intro y0 y1 y2 y3 y4 y5 y6 y7 y8 y9
   unfold super_checkEdge.j0
   repeat' first
   | (with_reducible exact ih0 _ _ _ _ _ _ _ _ _ _)
   | (with_reducible exact ih1 _ _ _ _ _ _ _ _ _ _)
   | (with_reducible exact ih2 _ _ _ _ _ _ _ _ _ _)
   | (with_reducible exact ih3 _ _ _ _ _ _ _ _ _)
   | (with_reducible exact ih4 _ _ _ _ _ _ _ _)
   | (with_reducible exact super_compareEdges.mono _ _ _ _ _ _ _ _ _)
   | (with_reducible exact super_fits.mono _ _ _ _ _ _ _ _)
   | (with_reducible exact LeO.refl _)
   | (with_reducible exact LeO.none _)
   | (with_reducible refine LeO.ite ?_ ?_)
   | (with_reducible refine LeO.bind ?_ (fun _ => ?_))
   | exact ih0 _ _ _ _ _ _ _ _ _ _
   | exact ih1 _ _ _ _ _ _ _ _ _ _
   | exact ih2 _ _ _ _ _ _ _ _ _ _
   | exact ih3 _ _ _ _ _ _ _ _ _
   | exact ih4 _ _ _ _ _ _ _ _
   | exact super_compareEdges.mono _ _ _ _ _ _ _ _ _
   | exact super_fits.mono _ _ _ _ _ _ _ _
   | exact LeO.none _
   | refine LeO.ite ?_ ?_
   | refine LeO.bind ?_ (fun _ => ?_)
  ·intro y0 y1 y2 y3 y4 y5 y6 y7 y8 y9
   unfold super_checkEdge.j1
   repeat' first
   | (with_reducible exact ih0 _ _ _ _ _ _ _ _ _ _)
   | (with_reducible exact ih1 _ _ _ _ _ _ _ _ _ _)
   | (with_reducible exact ih2 _ _ _ _ _ _ _ _ _ _)
   | (with_reducible exact ih3 _ _ _ _ _ _ _ _ _)
   | (with_reducible exact ih4 _ _ _ _ _ _ _ _)
   | (with_reducible exact super_compareEdges.mono _ _ _ _ _ _ _ _ _)
   | (with_reducible exact super_fits.mono _ _ _ _ _ _ _ _)
   | (with_reducible exact LeO.refl _)
   | (with_reducible exact LeO.none _)
   | (with_reducible refine LeO.ite ?_ ?_)
   | (with_reducible refine LeO.bind ?_ (fun _ => ?_))
   | exact ih0 _ _ _ _ _ _ _ _ _ _
   | exact ih1 _ _ _ _ _ _ _ _ _ _
   | exact ih2 _ _ _ _ _ _ _ _ _ _
   | exact ih3 _ _ _ _ _ _ _ _ _
   | exact ih4 _ _ _ _ _ _ _ _
   | exact super_compareEdges.mono _ _ _ _ _ _ _ _ _
   | exact super_fits.mono _ _ _ _ _ _ _ _
   | exact LeO.none _
   | refine LeO.ite ?_ ?_
   | refine LeO.bind ?_ (fun _ => ?_)
  ·intro y0 y1 y2 y3 y4 y5 y6 y7 y8 y9
   unfold super_checkEdge.j2
   repeat' first
   | (with_reducible exact ih0 _ _ _ _ _ _ _ _ _ _)
   | (with_reducible exact ih1 _ _ _ _ _ _ _ _ _ _)
   | (with_reducible exact ih2 _ _ _ _ _ _ _ _ _ _)
   | (with_reducible exact ih3 _ _ _ _ _ _ _ _ _)
   | (with_reducible exact ih4 _ _ _ _ _ _ _ _)
   | (with_reducible exact super_compareEdges.mono _ _ _ _ _ _ _ _ _)
   | (with_reducible exact super_fits.mono _ _ _ _ _ _ _ _)
   | (with_reducible exact LeO.refl _)
   | (with_reducible exact LeO.none _)
   | (with_reducible refine LeO.ite ?_ ?_)
   | (with_reducible refine LeO.bind ?_ (fun _ => ?_))
   | exact ih0 _ _ _ _ _ _ _ _ _ _
   | exact ih1 _ _ _ _ _ _ _ _ _ _
   | exact ih2 _ _ _ _ _ _ _ _ _ _
   | exact ih3 _ _ _ _ _ _ _ _ _
   | exact ih4 _ _ _ _ _ _ _ _
   | exact super_compareEdges.mono _ _ _ _ _ _ _ _ _
   | exact super_fits.mono _ _ _ _ _ _ _ _
   | exact LeO.none _
   | refine LeO.ite ?_ ?_
   | refine LeO.bind ?_ (fun _ => ?_)
  ·intro y0 y1 y2 y3 y4 y5 y6 y7 y8
   unfold super_checkEdge.j3
   repeat' first
   | (with_reducible exact ih0 _ _ _ _ _ _ _ _ _ _)
   | (with_reducible exact ih1 _ _ _ _ _ _ _ _ _ _)
   | (with_reducible exact ih2 _ _ _ _ _ _ _ _ _ _)
   | (with_reducible exact ih3 _ _ _ _ _ _ _ _ _)
   | (with_reducible exact ih4 _ _ _ _ _ _ _ _)
   | (with_reducible exact super_compareEdges.mono _ _ _ _ _ _ _ _ _)
   | (with_reducible exact super_fits.mono _ _ _ _ _ _ _ _)
   | (with_reducible exact LeO.refl _)
   | (with_reducible exact LeO.none _)
   | (with_reducible refine LeO.ite ?_ ?_)
   | (with_reducible refine LeO.bind ?_ (fun _ => ?_))
   | exact ih0 _ _ _ _ _ _ _ _ _ _
   | exact ih1 _ _ _ _ _ _ _ _ _ _
   | exact ih2 _ _ _ _ _ _ _ _ _ _
   | exact ih3 _ _ _ _ _ _ _ _ _
   | exact ih4 _ _ _ _ _ _ _ _
   | exact super_compareEdges.mono _ _ _ _ _ _ _ _ _
   | exact super_fits.mono _ _ _ _ _ _ _ _
   | exact LeO.none _
   | refine LeO.ite ?_ ?_
   | refine LeO.bind ?_ (fun _ => ?_)
  ·intro y0 y1 y2 y3 y4 y5 y6 y7
   unfold super_checkEdge.j4
   repeat' first
   | (with_reducible exact ih0 _ _ _ _ _ _ _ _ _ _)
   | (with_reducible exact ih1 _ _ _ _ _ _ _ _ _ _)
   | (with_reducible exact ih2 _ _ _ _ _ _ _ _ _ _)
   | (with_reducible exact ih3 _ _ _ _ _ _ _ _ _)
   | (with_reducible exact ih4 _ _ _ _ _ _ _ _)
   | (with_reducible exact super_compareEdges.mono _ _ _ _ _ _ _ _ _)
   | (with_reducible exact super_fits.mono _ _ _ _ _ _ _ _)
   | (with_reducible exact LeO.refl _)
   | (with_reducible exact LeO.none _)
   | (with_reducible refine LeO.ite ?_ ?_)
   | (with_reducible refine LeO.bind ?_ (fun _ => ?_))
   | exact ih0 _ _ _ _ _ _ _ _ _ _
   | exact ih1 _ _ _ _ _ _ _ _ _ _
   | exact ih2 _ _ _ _ _ _ _ _ _ _
   | exact ih3 _ _ _ _ _ _ _ _ _
   | exact ih4 _ _ _ _ _ _ _ _
   | exact super_compareEdges.mono _ _ _ _ _ _ _ _ _
   | exact super_fits.mono _ _ _ _ _ _ _ _
   | exact LeO.none _
   | refine LeO.ite ?_ ?_
   | refine LeO.bind ?_ (fun _ => ?_)
theorem super_checkEdge.mono : ∀ a0 a1 a2 a3 k, LeO (super_checkEdge.f k a0 a1 a2 a3) (super_checkEdge.f (k + 1) a0 a1 a2 a3) := by
 intro a0 a1 a2 a3 k
 obtain ⟨ih0, ih1, ih2, ih3, ih4⟩ := super_checkEdge.mono_l k
 unfold super_checkEdge.f
 repeat' first
   | (with_reducible exact ih0 _ _ _ _ _ _ _ _ _ _)
   | (with_reducible exact ih1 _ _ _ _ _ _ _ _ _ _)
   | (with_reducible exact ih2 _ _ _ _ _ _ _ _ _ _)
   | (with_reducible exact ih3 _ _ _ _ _ _ _ _ _)
   | (with_reducible exact ih4 _ _ _ _ _ _ _ _)
   | (with_reducible exact super_compareEdges.mono _ _ _ _ _ _ _ _ _)
   | (with_reducible exact super_fits.mono _ _ _ _ _ _ _ _)
   | (with_reducible exact LeO.refl _)
   | (with_reducible exact LeO.none _)
   | (with_reducible refine LeO.ite ?_ ?_)
   | (with_reducible refine LeO.bind ?_ (fun _ => ?_))
   | exact ih0 _ _ _ _ _ _ _ _ _ _
   | exact ih1 _ _ _ _ _ _ _ _ _ _
   | exact ih2 _ _ _ _ _ _ _ _ _ _
   | exact ih3 _ _ _ _ _ _ _ _ _
   | exact ih4 _ _ _ _ _ _ _ _
   | exact super_compareEdges.mono _ _ _ _ _ _ _ _ _
   | exact super_fits.mono _ _ _ _ _ _ _ _
   | exact LeO.none _
   | refine LeO.ite ?_ ?_
   | refine LeO.bind ?_ (fun _ => ?_)
def super_checkEdge.T10 : Bool × List (List Nat × List Nat) := (true, [([], []), ([0], [0]), ([1], [1]), ([2], [2]), ([3, 2], [2, 3]), ([2], [2]), ([5, 2], [2, 5]), ([4, 6, 2], [2, 4, 6]), ([7, 2], [2, 7]), ([2], [2]), ([8, 9, 2, 2], [2, 8, 9]), ([10, 2], [2, 10]), ([2, 11], [2, 11]), ([12, 10], [12])])
def super_checkEdge.B10 : List Nat := [0, 1, 3, 7, 15, 7, 39, 127, 255, 7, 1023, 2047, 4095, 8191]
theorem super_checkEdge.tab10 : rtab .any (opsOf Try.f112 10) = super_checkEdge.T10 := by kernel_rfl
theorem super_checkEdge.bits10 : waitsOk super_checkEdge.T10.2 super_checkEdge.B10 = true := by kernel_rfl
set_option maxHeartbeats 8000000 in
set_option maxRecDepth 100000 in
theorem super_checkEdge.calls (k : Nat) (A0_0 : Option Addr) (c0_0 : Nat) (l0_0 : List (S35)) (A0_1 : Option Addr) (c0_1 : Nat) (l0_1 : List (S32)) (a0_2 : Int) (a1 : Int) (r : Int) (w : World) (hr0_0 : Kd.C k35 w A0_0 l0_0.length l0_0) (hc0_0 : l0_0.length ≤ c0_0) (hr0_1 : Kd.C k32 w A0_1 l0_1.length l0_1) (hc0_1 : l0_1.length ≤ c0_1) (h : super_checkEdge.f k l0_0 l0_1 a0_2 a1 = some r) :
  Calls Try.prog 112 #[.agg #[.slice A0_0 l0_0.length c0_0, .slice A0_1 l0_1.length c0_1, .int .i64 a0_2], .int .i64 a1] w fun e w' => e = .returned (.int .i64 r) ∧ Below w.heap.size w w' := by
 have hu25 := Try.underlying25
 have hu32 := Try.underlying32
 have HR0_0 := qam hr0_0
 have HC0_0 := qam hc0_0
 clear hr0_0 hc0_0
 have HR0_1 := qam hr0_1
 have HC0_1 := qam hc0_1
 clear hr0_1 hc0_1
 have HB := qam (Below.refl w.heap.size w)
 have H : (if 0 ≤ a1 then (if a1 < (l0_1.length : Int) then (if ((rd_T32 l0_1 a1).f0) < 0 then (super_checkEdge.j0 k a1 (l0_0.length : Int) true l0_0 l0_1 a0_2 ((rd_T32 l0_1 a1).f0) ((rd_T32 l0_1 a1).f1) ((rd_T32 l0_1 a1).f2) ((rd_T32 l0_1 a1).f3)) else (if ((rd_T32 l0_1 a1).f0) ≥ (l0_0.length : Int) then (super_checkEdge.j0 k a1 (l0_0.length : Int) true l0_0 l0_1 a0_2 ((rd_T32 l0_1 a1).f0) ((rd_T32 l0_1 a1).f1) ((rd_T32 l0_1 a1).f2) ((rd_T32 l0_1 a1).f3)) else (if ((rd_T32 l0_1 a1).f1) < 0 then (super_checkEdge.j0 k a1 (l0_0.length : Int) true l0_0 l0_1 a0_2 ((rd_T32 l0_1 a1).f0) ((rd_T32 l0_1 a1).f1) ((rd_T32 l0_1 a1).f2) ((rd_T32 l0_1 a1).f3)) else (super_checkEdge.j0 k a1 (l0_0.length : Int) (decide (((rd_T32 l0_1 a1).f1) ≥ (l0_0.length : Int))) l0_0 l0_1 a0_2 ((rd_T32 l0_1 a1).f0) ((rd_T32 l0_1 a1).f1) ((rd_T32 l0_1 a1).f2) ((rd_T32 l0_1 a1).f3))))) else (none)) else (none)) = some r := h
 clear h
 by_cases c3 : 0 ≤ a1
 ·rw [if_pos c3] at H
  have c3b0 : decide (0 ≤ a1) = true := decide_eq_true c3
  clear c3
  by_cases c4 : a1 < (l0_1.length : Int)
  ·rw [if_pos c4] at H
   have c4b0 : decide (a1 < (l0_1.length : Int)) = true := decide_eq_true c4
   clear c4
   have HC5 := qam H
   clear H
   go_enter Try.func112, Try.ntmps112
   go_upto_region 3 with (first | ((with_reducible refine gate_dst (N := 2) rfl ?_); refine box_event ?hg (N := 2) ?hd (cs := #[.slice A0_0 l0_0.length c0_0, .slice A0_1 l0_1.length c0_1, .int .i64 a0_2]) (t := 25) ?hr ?_; (case hd => rfl); (case hg => rfl); (case hr => first | (go_simp; done) | (go_simp; rfl)); intro gb141 hg w6 hbox hb; have n0_ := qam (qw6 (by repeat (first | (with_reducible first | exact HB.out | apply qw1 | apply qw2 | apply qw3) | exact HB.out)) hb); have n1_ := qam (hbox); have n2_ := qam ((by rw [hg]; exact (qw5 (by repeat (first | (with_reducible first | exact HB.out | apply qw1 | apply qw2 | apply qw3) | exact HB.out))) : w.heap.size ≤ gb141)); have n3_ := qam ((by rw [hg]; exact (qw5 (by repeat (first | (with_reducible first | exact HB.out | apply qw1 | apply qw2 | apply qw3) | exact HB.out))) : w.heap.size ≤ gb141)); clear HB; have HB := n0_; have BK141 := n1_; have GW141 := n2_; have GE141 := n3_; clear n0_ n1_ n2_ n3_; clear hb hbox hg; have hcz7_0 : w6.cell? ⟨gb141, 0, none⟩ = some (.slice A0_0 l0_0.length c0_0) := (qb1 BK141.out 0).trans rfl; have hcz7_1 : w6.cell? ⟨gb141, 1, none⟩ = some (.slice A0_1 l0_1.length c0_1) := (qb1 BK141.out 1).trans rfl; have hcz7_2 : w6.cell? ⟨gb141, 2, none⟩ = some (.int .i64 a0_2) := (qb1 BK141.out 2).trans rfl; have hfz7_0 := qb2 BK141.out 0; have hfz7_1 := qb2 BK141.out 1; have hfz7_2 := qb2 BK141.out 2; have p142 : 0 ≤ (a1 : Int) := of_decide_eq_true (by first | (with_reducible assumption) | assumption); have q142 : a1 < (l0_1.length : Int) := of_decide_eq_true (by first | (with_reducible assumption) | assumption); obtain ⟨ad142, e142, hx142_0, hx142_1, hx142_2, hx142_3⟩ := at_T32 HR0_1.out a1 p142 q142; cases e142; replace hx142_0 := (HB.out.cell (qbl w _ hx142_0)).trans hx142_0; replace hx142_1 := (HB.out.cell (qbl w _ hx142_1)).trans hx142_1; replace hx142_2 := (HB.out.cell (qbl w _ hx142_2)).trans hx142_2; replace hx142_3 := (HB.out.cell (qbl w _ hx142_3)).trans hx142_3; replace p142 := eq_true p142; replace q142 := eq_true q142) | ((with_reducible refine gate_dst (N := 5) rfl ?_); refine box_event ?hg (N := 5) ?hd (cs := #[.int .i64 0, .int .i64 0, .int .i64 0, .int .i64 0]) (t := 32) ?hr ?_; (case hd => rfl); (case hg => rfl); (case hr => first | (go_simp; done) | (go_simp; rfl)); intro gb143 hg w8 hbox hb; have n0_ := qam (blk_below (g := gb141) (o := .cells #[.slice A0_0 l0_0.length c0_0, .slice (some ad142) l0_1.length c0_1, .int .i64 a0_2] 25 (0, 0)) (by (with_reducible repeat (first | refine qb3 ?_ _ | refine qb5 ?_ | refine qb4 ?_ _)); exact BK141.out) hb); have n1_ := qam (qw6 (by repeat (first | (with_reducible first | exact HB.out | apply qw1 | apply qw2 | apply qw3 | refine qw4 ?_ GE141.out) | exact HB.out)) hb); have n2_ := qam (hbox); have n3_ := qam ((by rw [hg]; exact (qw5 (by repeat (first | (with_reducible first | exact HB.out | apply qw1 | apply qw2 | apply qw3 | refine qw4 ?_ GE141.out) | exact HB.out))) : w.heap.size ≤ gb143)); have n4_ := qam ((by rw [hg]; exact (qw5 (by repeat (first | (with_reducible first | exact HB.out | apply qw1 | apply qw2 | apply qw3 | refine qw4 ?_ GE141.out) | exact HB.out))) : w.heap.size ≤ gb143)); have n5_ := qam ((by rw [hg]; exact qnn (blk_lt (g := gb141) (o := .cells #[.slice A0_0 l0_0.length c0_0, .slice (some ad142) l0_1.length c0_1, .int .i64 a0_2] 25 (0, 0)) (by (with_reducible repeat (first | refine qb3 ?_ _ | refine qb5 ?_ | refine qb4 ?_ _)); exact BK141.out)) : gb141 ≠ gb143)); have n6_ := qam ((by rw [hg]; exact Nat.ne_of_gt (blk_lt (g := gb141) (o := .cells #[.slice A0_0 l0_0.length c0_0, .slice (some ad142) l0_1.length c0_1, .int .i64 a0_2] 25 (0, 0)) (by (with_reducible repeat (first | refine qb3 ?_ _ | refine qb5 ?_ | refine qb4 ?_ _)); exact BK141.out)) : gb143 ≠ gb141)); clear BK141; clear HB; have BK141 := n0_; have HB := n1_; have BK143 := n2_; have GW143 := n3_; have GE143 := n4_; have NB141_143 := n5_; have NB143_141 := n6_; clear n0_ n1_ n2_ n3_ n4_ n5_ n6_; clear hb hbox hg; have hnb9 := NB143_141.out; have hnc9 := NB141_143.out; have hcz10_0 : w8.cell? ⟨gb143, 0, none⟩ = some (.int .i64 0) := (qb1 BK143.out 0).trans rfl; have hcz10_1 : w8.cell? ⟨gb143, 1, none⟩ = some (.int .i64 0) := (qb1 BK143.out 1).trans rfl; have hcz10_2 : w8.cell? ⟨gb143, 2, none⟩ = some (.int .i64 0) := (qb1 BK143.out 2).trans rfl; have hcz10_3 : w8.cell? ⟨gb143, 3, none⟩ = some (.int .i64 0) := (qb1 BK143.out 3).trans rfl; have hfz10_0 := qb2 BK143.out 0; have hfz10_1 := qb2 BK143.out 1; have hfz10_2 := qb2 BK143.out 2; have hfz10_3 := qb2 BK143.out 3; have hcz11_0 : w8.cell? ⟨gb141, 0, none⟩ = some (.slice A0_0 l0_0.length c0_0) := (qb1 BK141.out 0).trans rfl; have hcz11_1 : w8.cell? ⟨gb141, 1, none⟩ = some (.slice (some ad142) l0_1.length c0_1) := (qb1 BK141.out 1).trans rfl; have hcz11_2 : w8.cell? ⟨gb141, 2, none⟩ = some (.int .i64 a0_2) := (qb1 BK141.out 2).trans rfl; have hfz11_0 := qb2 BK141.out 0; have hfz11_1 := qb2 BK141.out 1; have hfz11_2 := qb2 BK141.out 2))
   (try simp only [Act.put, qs1, qs2, qs3])
   go_cut [35] (fun v35 wc => ∃ (kq : Nat) (x35_4 : Bool), v35 = .bool x35_4 ∧ Aside0 (super_checkEdge.j0 kq a1 (l0_0.length : Int) x35_4 l0_0 l0_1 a0_2 ((rd_T32 l0_1 a1).f0) ((rd_T32 l0_1 a1).f1) ((rd_T32 l0_1 a1).f2) ((rd_T32 l0_1 a1).f3) = some r) ∧ Aside0 (kq ≤ k) ∧ Aside0 (wc.heap[gb141]? = some (.cells #[(.slice A0_0 l0_0.length c0_0), (.slice (some ad142) l0_1.length c0_1), .int .i64 a0_2] 25 (0, 0))) ∧ Aside0 (wc.heap[gb143]? = some (.cells #[.int .i64 ((rd_T32 l0_1 a1).f0), .int .i64 ((rd_T32 l0_1 a1).f1), .int .i64 ((rd_T32 l0_1 a1).f2), .int .i64 ((rd_T32 l0_1 a1).f3)] 32 (0, 0))) ∧ Aside0 (Below w.heap.size w wc))
   case first =>
    have H := HC5.out
    clear HC5
    by_cases c12 : ((rd_T32 l0_1 a1).f0) < 0
    ·rw [if_pos c12] at H
     have c12b0 : decide (((rd_T32 l0_1 a1).f0) < 0) = true := decide_eq_true c12
     clear c12
     (first | rw [c12b0] | (simp only [i64_w, i32_w]; rw [c12b0]) | skip)
     have H' := qam H
     clear H
     have hnb13 := NB143_141.out
     have hnc13 := NB141_143.out
     have hcz14_0 : w8.cell? ⟨gb143, 0, none⟩ = some (.int .i64 0) := (qb1 BK143.out 0).trans rfl
     have hcz14_1 : w8.cell? ⟨gb143, 1, none⟩ = some (.int .i64 0) := (qb1 BK143.out 1).trans rfl
     have hcz14_2 : w8.cell? ⟨gb143, 2, none⟩ = some (.int .i64 0) := (qb1 BK143.out 2).trans rfl
     have hcz14_3 : w8.cell? ⟨gb143, 3, none⟩ = some (.int .i64 0) := (qb1 BK143.out 3).trans rfl
     have hfz14_0 := qb2 BK143.out 0
     have hfz14_1 := qb2 BK143.out 1
     have hfz14_2 := qb2 BK143.out 2
     have hfz14_3 := qb2 BK143.out 3
     go_wp2
     go_meet
     case rel => exact ⟨_, (true), (by first | rfl | (simp; done) | (simp [*]; done)), H', ⟨by first | omega | exact Nat.le_refl _⟩, ⟨by (with_reducible repeat (first | refine qb3 ?_ _ | refine qb5 ?_ | refine qb4 ?_ _)); refine blk_far ?_ NB141_143.out _; (with_reducible repeat (first | refine qb3 ?_ _ | refine qb5 ?_ | refine qb4 ?_ _)); refine blk_far ?_ NB141_143.out _; (with_reducible repeat (first | refine qb3 ?_ _ | refine qb5 ?_ | refine qb4 ?_ _)); refine blk_far ?_ NB141_143.out _; (with_reducible repeat (first | refine qb3 ?_ _ | refine qb5 ?_ | refine qb4 ?_ _)); refine blk_far ?_ NB141_143.out _; (with_reducible repeat (first | refine qb3 ?_ _ | refine qb5 ?_ | refine qb4 ?_ _)); exact BK141.out⟩, ⟨by (with_reducible repeat (first | refine qb3 ?_ _ | refine qb5 ?_ | refine qb4 ?_ _)); refine blk_put (cs := #[.int .i64 ((rd_T32 l0_1 a1).f0), .int .i64 ((rd_T32 l0_1 a1).f1), .int .i64 ((rd_T32 l0_1 a1).f2), .int .i64 0]) ?_ 3 _ rfl; (with_reducible repeat (first | refine qb3 ?_ _ | refine qb5 ?_ | refine qb4 ?_ _)); refine blk_put (cs := #[.int .i64 ((rd_T32 l0_1 a1).f0), .int .i64 ((rd_T32 l0_1 a1).f1), .int .i64 0, .int .i64 0]) ?_ 2 _ rfl; (with_reducible repeat (first | refine qb3 ?_ _ | refine qb5 ?_ | refine qb4 ?_ _)); refine blk_put (cs := #[.int .i64 ((rd_T32 l0_1 a1).f0), .int .i64 0, .int .i64 0, .int .i64 0]) ?_ 1 _ rfl; (with_reducible repeat (first | refine qb3 ?_ _ | refine qb5 ?_ | refine qb4 ?_ _)); refine blk_put (cs := #[.int .i64 0, .int .i64 0, .int .i64 0, .int .i64 0]) ?_ 0 _ rfl; (with_reducible repeat (first | refine qb3 ?_ _ | refine qb5 ?_ | refine qb4 ?_ _)); exact BK143.out⟩, ⟨by repeat (first | (with_reducible first | exact HB.out | apply qw1 | apply qw2 | apply qw3 | refine qw4 ?_ GE141.out | refine qw4 ?_ GE143.out) | exact HB.out)⟩⟩
    ·rw [if_neg c12] at H
     have c12b0 : decide (((rd_T32 l0_1 a1).f0) < 0) = false := decide_eq_false c12
     clear c12
     (first | rw [c12b0] | (simp only [i64_w, i32_w]; rw [c12b0]) | skip)
     by_cases c15 : ((rd_T32 l0_1 a1).f0) ≥ (l0_0.length : Int)
     ·rw [if_pos c15] at H
      have c15b0 : decide ((l0_0.length : Int) ≤ ((rd_T32 l0_1 a1).f0)) = true := decide_eq_true c15
      clear c15
      have H' := qam H
      clear H
      have hnb16 := NB143_141.out
      have hnc16 := NB141_143.out
      have hcz17_0 : w8.cell? ⟨gb143, 0, none⟩ = some (.int .i64 0) := (qb1 BK143.out 0).trans rfl
      have hcz17_1 : w8.cell? ⟨gb143, 1, none⟩ = some (.int .i64 0) := (qb1 BK143.out 1).trans rfl
      have hcz17_2 : w8.cell? ⟨gb143, 2, none⟩ = some (.int .i64 0) := (qb1 BK143.out 2).trans rfl
      have hcz17_3 : w8.cell? ⟨gb143, 3, none⟩ = some (.int .i64 0) := (qb1 BK143.out 3).trans rfl
      have hfz17_0 := qb2 BK143.out 0
      have hfz17_1 := qb2 BK143.out 1
      have hfz17_2 := qb2 BK143.out 2
      have hfz17_3 := qb2 BK143.out 3
      go_wp2
      go_meet
      case rel => exact ⟨_, (true), (by first | rfl | (simp; done) | (simp [*]; done)), H', ⟨by first | omega | exact Nat.le_refl _⟩, ⟨by (with_reducible repeat (first | refine qb3 ?_ _ | refine qb5 ?_ | refine qb4 ?_ _)); refine blk_far ?_ NB141_143.out _; (with_reducible repeat (first | refine qb3 ?_ _ | refine qb5 ?_ | refine qb4 ?_ _)); refine blk_far ?_ NB141_143.out _; (with_reducible repeat (first | refine qb3 ?_ _ | refine qb5 ?_ | refine qb4 ?_ _)); refine blk_far ?_ NB141_143.out _; (with_reducible repeat (first | refine qb3 ?_ _ | refine qb5 ?_ | refine qb4 ?_ _)); refine blk_far ?_ NB141_143.out _; (with_reducible repeat (first | refine qb3 ?_ _ | refine qb5 ?_ | refine qb4 ?_ _)); exact BK141.out⟩, ⟨by (with_reducible repeat (first | refine qb3 ?_ _ | refine qb5 ?_ | refine qb4 ?_ _)); refine blk_put (cs := #[.int .i64 ((rd_T32 l0_1 a1).f0), .int .i64 ((rd_T32 l0_1 a1).f1), .int .i64 ((rd_T32 l0_1 a1).f2), .int .i64 0]) ?_ 3 _ rfl; (with_reducible repeat (first | refine qb3 ?_ _ | refine qb5 ?_ | refine qb4 ?_ _)); refine blk_put (cs := #[.int .i64 ((rd_T32 l0_1 a1).f0), .int .i64 ((rd_T32 l0_1 a1).f1), .int .i64 0, .int .i64 0]) ?_ 2 _ rfl; (with_reducible repeat (first | refine qb3 ?_ _ | refine qb5 ?_ | refine qb4 ?_ _)); refine blk_put (cs := #[.int .i64 ((rd_T32 l0_1 a1).f0), .int .i64 0, .int .i64 0, .int .i64 0]) ?_ 1 _ rfl; (with_reducible repeat (first | refine qb3 ?_ _ | refine qb5 ?_ | refine qb4 ?_ _)); refine blk_put (cs := #[.int .i64 0, .int .i64 0, .int .i64 0, .int .i64 0]) ?_ 0 _ rfl; (with_reducible repeat (first | refine qb3 ?_ _ | refine qb5 ?_ | refine qb4 ?_ _)); exact BK143.out⟩, ⟨by repeat (first | (with_reducible first | exact HB.out | apply qw1 | apply qw2 | apply qw3 | refine qw4 ?_ GE141.out | refine qw4 ?_ GE143.out) | exact HB.out)⟩⟩
     ·rw [if_neg c15] at H
      have c15b0 : decide ((l0_0.length : Int) ≤ ((rd_T32 l0_1 a1).f0)) = false := decide_eq_false c15
      clear c15
      by_cases c18 : ((rd_T32 l0_1 a1).f1) < 0
      ·rw [if_pos c18] at H
       have c18b0 : decide (((rd_T32 l0_1 a1).f1) < 0) = true := decide_eq_true c18
       clear c18
       have H' := qam H
       clear H
       have hnb19 := NB143_141.out
       have hnc19 := NB141_143.out
       have hcz20_0 : w8.cell? ⟨gb143, 0, none⟩ = some (.int .i64 0) := (qb1 BK143.out 0).trans rfl
       have hcz20_1 : w8.cell? ⟨gb143, 1, none⟩ = some (.int .i64 0) := (qb1 BK143.out 1).trans rfl
       have hcz20_2 : w8.cell? ⟨gb143, 2, none⟩ = some (.int .i64 0) := (qb1 BK143.out 2).trans rfl
       have hcz20_3 : w8.cell? ⟨gb143, 3, none⟩ = some (.int .i64 0) := (qb1 BK143.out 3).trans rfl
       have hfz20_0 := qb2 BK143.out 0
       have hfz20_1 := qb2 BK143.out 1
       have hfz20_2 := qb2 BK143.out 2
       have hfz20_3 := qb2 BK143.out 3
       go_wp2
       go_meet
       case rel => exact ⟨_, (true), (by first | rfl | (simp; done) | (simp [*]; done)), H', ⟨by first | omega | exact Nat.le_refl _⟩, ⟨by (with_reducible repeat (first | refine qb3 ?_ _ | refine qb5 ?_ | refine qb4 ?_ _)); refine blk_far ?_ NB141_143.out _; (with_reducible repeat (first | refine qb3 ?_ _ | refine qb5 ?_ | refine qb4 ?_ _)); refine blk_far ?_ NB141_143.out _; (with_reducible repeat (first | refine qb3 ?_ _ | refine qb5 ?_ | refine qb4 ?_ _)); refine blk_far ?_ NB141_143.out _; (with_reducible repeat (first | refine qb3 ?_ _ | refine qb5 ?_ | refine qb4 ?_ _)); refine blk_far ?_ NB141_143.out _; (with_reducible repeat (first | refine qb3 ?_ _ | refine qb5 ?_ | refine qb4 ?_ _)); exact BK141.out⟩, ⟨by (with_reducible repeat (first | refine qb3 ?_ _ | refine qb5 ?_ | refine qb4 ?_ _)); refine blk_put (cs := #[.int .i64 ((rd_T32 l0_1 a1).f0), .int .i64 ((rd_T32 l0_1 a1).f1), .int .i64 ((rd_T32 l0_1 a1).f2), .int .i64 0]) ?_ 3 _ rfl; (with_reducible repeat (first | refine qb3 ?_ _ | refine qb5 ?_ | refine qb4 ?_ _)); refine blk_put (cs := #[.int .i64 ((rd_T32 l0_1 a1).f0), .int .i64 ((rd_T32 l0_1 a1).f1), .int .i64 0, .int .i64 0]) ?_ 2 _ rfl; (with_reducible repeat (first | refine qb3 ?_ _ | refine qb5 ?_ | refine qb4 ?_ _)); refine blk_put (cs := #[.int .i64 ((rd_T32 l0_1 a1).f0), .int .i64 0, .int .i64 0, .int .i64 0]) ?_ 1 _ rfl; (with_reducible repeat (first | refine qb3 ?_ _ | refine qb5 ?_ | refine qb4 ?_ _)); refine blk_put (cs := #[.int .i64 0, .int .i64 0, .int .i64 0, .int .i64 0]) ?_ 0 _ rfl; (with_reducible repeat (first | refine qb3 ?_ _ | refine qb5 ?_ | refine qb4 ?_ _)); exact BK143.out⟩, ⟨by repeat (first | (with_reducible first | exact HB.out | apply qw1 | apply qw2 | apply qw3 | refine qw4 ?_ GE141.out | refine qw4 ?_ GE143.out) | exact HB.out)⟩⟩
      ·rw [if_neg c18] at H
       have c18b0 : decide (((rd_T32 l0_1 a1).f1) < 0) = false := decide_eq_false c18
       clear c18
       have H' := qam H
       clear H
       have hnb21 := NB143_141.out
       have hnc21 := NB141_143.out
       have hcz22_0 : w8.cell? ⟨gb143, 0, none⟩ = some (.int .i64 0) := (qb1 BK143.out 0).trans rfl
       have hcz22_1 : w8.cell? ⟨gb143, 1, none⟩ = some (.int .i64 0) := (qb1 BK143.out 1).trans rfl
       have hcz22_2 : w8.cell? ⟨gb143, 2, none⟩ = some (.int .i64 0) := (qb1 BK143.out 2).trans rfl
       have hcz22_3 : w8.cell? ⟨gb143, 3, none⟩ = some (.int .i64 0) := (qb1 BK143.out 3).trans rfl
       have hfz22_0 := qb2 BK143.out 0
       have hfz22_1 := qb2 BK143.out 1
       have hfz22_2 := qb2 BK143.out 2
       have hfz22_3 := qb2 BK143.out 3
       go_wp2
       go_meet
       case rel => exact ⟨_, (decide (((rd_T32 l0_1 a1).f1) ≥ (l0_0.length : Int))), (by first | rfl | (simp; done) | (simp [*]; done)), H', ⟨by first | omega | exact Nat.le_refl _⟩, ⟨by (with_reducible repeat (first | refine qb3 ?_ _ | refine qb5 ?_ | refine qb4 ?_ _)); refine blk_far ?_ NB141_143.out _; (with_reducible repeat (first | refine qb3 ?_ _ | refine qb5 ?_ | refine qb4 ?_ _)); refine blk_far ?_ NB141_143.out _; (with_reducible repeat (first | refine qb3 ?_ _ | refine qb5 ?_ | refine qb4 ?_ _)); refine blk_far ?_ NB141_143.out _; (with_reducible repeat (first | refine qb3 ?_ _ | refine qb5 ?_ | refine qb4 ?_ _)); refine blk_far ?_ NB141_143.out _; (with_reducible repeat (first | refine qb3 ?_ _ | refine qb5 ?_ | refine qb4 ?_ _)); exact BK141.out⟩, ⟨by (with_reducible repeat (first | refine qb3 ?_ _ | refine qb5 ?_ | refine qb4 ?_ _)); refine blk_put (cs := #[.int .i64 ((rd_T32 l0_1 a1).f0), .int .i64 ((rd_T32 l0_1 a1).f1), .int .i64 ((rd_T32 l0_1 a1).f2), .int .i64 0]) ?_ 3 _ rfl; (with_reducible repeat (first | refine qb3 ?_ _ | refine qb5 ?_ | refine qb4 ?_ _)); refine blk_put (cs := #[.int .i64 ((rd_T32 l0_1 a1).f0), .int .i64 ((rd_T32 l0_1 a1).f1), .int .i64 0, .int .i64 0]) ?_ 2 _ rfl; (with_reducible repeat (first | refine qb3 ?_ _ | refine qb5 ?_ | refine qb4 ?_ _)); refine blk_put (cs := #[.int .i64 ((rd_T32 l0_1 a1).f0), .int .i64 0, .int .i64 0, .int .i64 0]) ?_ 1 _ rfl; (with_reducible repeat (first | refine qb3 ?_ _ | refine qb5 ?_ | refine qb4 ?_ _)); refine blk_put (cs := #[.int .i64 0, .int .i64 0, .int .i64 0, .int .i64 0]) ?_ 0 _ rfl; (with_reducible repeat (first | refine qb3 ?_ _ | refine qb5 ?_ | refine qb4 ?_ _)); exact BK143.out⟩, ⟨by repeat (first | (with_reducible first | exact HB.out | apply qw1 | apply qw2 | apply qw3 | refine qw4 ?_ GE141.out | refine qw4 ?_ GE143.out) | exact HB.out)⟩⟩
   case rest =>
    clear HC5
    try clear c1
    try clear p1
    try clear q1
    try clear hx1
    try clear c2
    try clear p2
    try clear c3
    try clear c3b0
    try clear c4
    try clear c4b0
    try clear c9
    try clear c11
    try clear c12
    try clear c12b0
    try clear c13
    try clear p14
    try clear q14
    try clear hx14
    try clear c15
    try clear c15b0
    try clear c16
    try clear c18
    try clear c18b0
    try clear c19
    try clear c21
    try clear hcz10_0
    try clear hcz10_1
    try clear hcz10_2
    try clear hcz10_3
    try clear hcz11_0
    try clear hcz11_1
    try clear hcz11_2
    try clear hcz14_0
    try clear hcz14_1
    try clear hcz14_2
    try clear hcz14_3
    try clear hcz17_0
    try clear hcz17_1
    try clear hcz17_2
    try clear hcz17_3
    try clear hcz20_0
    try clear hcz20_1
    try clear hcz20_2
    try clear hcz20_3
    try clear hcz22_0
    try clear hcz22_1
    try clear hcz22_2
    try clear hcz22_3
    try clear hcz7_0
    try clear hcz7_1
    try clear hcz7_2
    try clear hfz10_0
    try clear hfz10_1
    try clear hfz10_2
    try clear hfz10_3
    try clear hfz11_0
    try clear hfz11_1
    try clear hfz11_2
    try clear hfz14_0
    try clear hfz14_1
    try clear hfz14_2
    try clear hfz14_3
    try clear hfz17_0
    try clear hfz17_1
    try clear hfz17_2
    try clear hfz17_3
    try clear hfz20_0
    try clear hfz20_1
    try clear hfz20_2
    try clear hfz20_3
    try clear hfz22_0
    try clear hfz22_1
    try clear hfz22_2
    try clear hfz22_3
    try clear hfz7_0
    try clear hfz7_1
    try clear hfz7_2
    try clear hx142_0
    try clear hx142_1
    try clear hx142_2
    try clear hx142_3
    try clear p142
    try clear q142
    obtain ⟨kq, x35_4, rfl, HA, HJ4, BK141, BK143, HB⟩ := hcut
    cases kq with
    | zero => exact absurd HA.out (by simp [super_checkEdge.j0])
    | succ kj4 =>
     have H := HA.out
     clear HA
     simp only [super_checkEdge.j0] at H
     by_cases c23 : x35_4 = true
     ·subst c23
      have H1 : (some 4) = some r := by rw [if_pos rfl] at H; exact H
      clear H
      have H := H1
      clear H1
      obtain rfl := Option.some.inj H
      go_wp2
      go_ret
      exact ⟨by first | rfl | (simp [errW_none, errW_some] <;> rfl) | (simp [*, errW_none, errW_some] <;> rfl), by repeat (first | (with_reducible first | exact HB.out | apply qw1 | apply qw2 | apply qw3 | refine qw4 ?_ GE141.out | refine qw4 ?_ GE143.out) | exact HB.out)⟩
     ·replace c23 := Bool.eq_false_iff.mpr c23
      subst c23
      have H1 : (if ((rd_T32 l0_1 a1).f2) < 1 then (super_checkEdge.j1 kj4 a1 (l0_0.length : Int) true l0_0 l0_1 a0_2 ((rd_T32 l0_1 a1).f0) ((rd_T32 l0_1 a1).f1) ((rd_T32 l0_1 a1).f2) ((rd_T32 l0_1 a1).f3)) else (super_checkEdge.j1 kj4 a1 (l0_0.length : Int) (decide (((rd_T32 l0_1 a1).f2) > 5)) l0_0 l0_1 a0_2 ((rd_T32 l0_1 a1).f0) ((rd_T32 l0_1 a1).f1) ((rd_T32 l0_1 a1).f2) ((rd_T32 l0_1 a1).f3))) = some r := by rw [if_neg (show ¬ (false = true) by decide)] at H; exact H
      clear H
      have H := H1
      clear H1
      have HC24 := qam H
      clear H
      go_upto_region 5 with (fail)
      go_cut [43] (fun v43 wc => ∃ (kq : Nat) (x43_23 : Bool), v43 = .bool x43_23 ∧ Aside0 (super_checkEdge.j1 kq a1 (l0_0.length : Int) x43_23 l0_0 l0_1 a0_2 ((rd_T32 l0_1 a1).f0) ((rd_T32 l0_1 a1).f1) ((rd_T32 l0_1 a1).f2) ((rd_T32 l0_1 a1).f3) = some r) ∧ Aside0 (kq ≤ kj4) ∧ Aside0 (wc.heap[gb141]? = some (.cells #[(.slice A0_0 l0_0.length c0_0), (.slice (some ad142) l0_1.length c0_1), .int .i64 a0_2] 25 (0, 0))) ∧ Aside0 (wc.heap[gb143]? = some (.cells #[.int .i64 ((rd_T32 l0_1 a1).f0), .int .i64 ((rd_T32 l0_1 a1).f1), .int .i64 ((rd_T32 l0_1 a1).f2), .int .i64 ((rd_T32 l0_1 a1).f3)] 32 (0, 0))) ∧ Aside0 (Below w.heap.size w wc))
      case first =>
       have H := HC24.out
       clear HC24
       by_cases c25 : ((rd_T32 l0_1 a1).f2) < 1
       ·rw [if_pos c25] at H
        have c25b0 : decide (((rd_T32 l0_1 a1).f2) < 1) = true := decide_eq_true c25
        clear c25
        (first | rw [c25b0] | (simp only [i64_w, i32_w]; rw [c25b0]) | skip)
        have H' := qam H
        clear H
        have hnb26 := NB143_141.out
        have hnc26 := NB141_143.out
        have hcz27_0 : wc.cell? ⟨gb143, 0, none⟩ = some (.int .i64 ((rd_T32 l0_1 a1).f0)) := (qb1 BK143.out 0).trans rfl
        have hcz27_1 : wc.cell? ⟨gb143, 1, none⟩ = some (.int .i64 ((rd_T32 l0_1 a1).f1)) := (qb1 BK143.out 1).trans rfl
        have hcz27_2 : wc.cell? ⟨gb143, 2, none⟩ = some (.int .i64 ((rd_T32 l0_1 a1).f2)) := (qb1 BK143.out 2).trans rfl
        have hcz27_3 : wc.cell? ⟨gb143, 3, none⟩ = some (.int .i64 ((rd_T32 l0_1 a1).f3)) := (qb1 BK143.out 3).trans rfl
        have hfz27_0 := qb2 BK143.out 0
        have hfz27_1 := qb2 BK143.out 1
        have hfz27_2 := qb2 BK143.out 2
        have hfz27_3 := qb2 BK143.out 3
        go_wp2
        go_meet
        case rel => exact ⟨_, (true), (by first | rfl | (simp; done) | (simp [*]; done)), H', ⟨by have := HJ4.out; first | omega | exact Nat.le_refl _⟩, ⟨by (with_reducible repeat (first | refine qb3 ?_ _ | refine qb5 ?_ | refine qb4 ?_ _)); exact BK141.out⟩, ⟨by (with_reducible repeat (first | refine qb3 ?_ _ | refine qb5 ?_ | refine qb4 ?_ _)); exact BK143.out⟩, ⟨by repeat (first | (with_reducible first | exact HB.out | apply qw1 | apply qw2 | apply qw3 | refine qw4 ?_ GE141.out | refine qw4 ?_ GE143.out) | exact HB.out)⟩⟩
       ·rw [if_neg c25] at H
        have c25b0 : decide (((rd_T32 l0_1 a1).f2) < 1) = false := decide_eq_false c25
        clear c25
        (first | rw [c25b0] | (simp only [i64_w, i32_w]; rw [c25b0]) | skip)
        have H' := qam H
        clear H
        have hnb28 := NB143_141.out
        have hnc28 := NB141_143.out
        have hcz29_0 : wc.cell? ⟨gb143, 0, none⟩ = some (.int .i64 ((rd_T32 l0_1 a1).f0)) := (qb1 BK143.out 0).trans rfl
        have hcz29_1 : wc.cell? ⟨gb143, 1, none⟩ = some (.int .i64 ((rd_T32 l0_1 a1).f1)) := (qb1 BK143.out 1).trans rfl
        have hcz29_2 : wc.cell? ⟨gb143, 2, none⟩ = some (.int .i64 ((rd_T32 l0_1 a1).f2)) := (qb1 BK143.out 2).trans rfl
        have hcz29_3 : wc.cell? ⟨gb143, 3, none⟩ = some (.int .i64 ((rd_T32 l0_1 a1).f3)) := (qb1 BK143.out 3).trans rfl
        have hfz29_0 := qb2 BK143.out 0
        have hfz29_1 := qb2 BK143.out 1
        have hfz29_2 := qb2 BK143.out 2
        have hfz29_3 := qb2 BK143.out 3
        go_wp2
        go_meet
        case rel => exact ⟨_, (decide (((rd_T32 l0_1 a1).f2) > 5)), (by first | rfl | (simp; done) | (simp [*]; done)), H', ⟨by have := HJ4.out; first | omega | exact Nat.le_refl _⟩, ⟨by (with_reducible repeat (first | refine qb3 ?_ _ | refine qb5 ?_ | refine qb4 ?_ _)); exact BK141.out⟩, ⟨by (with_reducible repeat (first | refine qb3 ?_ _ | refine qb5 ?_ | refine qb4 ?_ _)); exact BK143.out⟩, ⟨by repeat (first | (with_reducible first | exact HB.out | apply qw1 | apply qw2 | apply qw3 | refine qw4 ?_ GE141.out | refine qw4 ?_ GE143.out) | exact HB.out)⟩⟩
      case rest =>
       clear HC24
       try clear c1
       try clear p1
       try clear q1
       try clear hx1
       try clear c2
       try clear p2
       try clear c3
       try clear c3b0
       try clear c4
       try clear c4b0
       try clear c9
       try clear c11
       try clear c12
       try clear c12b0
       try clear c13
       try clear p14
       try clear q14
       try clear hx14
       try clear c15
       try clear c15b0
       try clear c16
       try clear c18
       try clear c18b0
       try clear c19
       try clear c21
       try clear c23
       try clear c25
       try clear c25b0
       try clear c26
       try clear c28
       try clear hcz10_0
       try clear hcz10_1
       try clear hcz10_2
       try clear hcz10_3
       try clear hcz11_0
       try clear hcz11_1
       try clear hcz11_2
       try clear hcz14_0
       try clear hcz14_1
       try clear hcz14_2
       try clear hcz14_3
       try clear hcz17_0
       try clear hcz17_1
       try clear hcz17_2
       try clear hcz17_3
       try clear hcz20_0
       try clear hcz20_1
       try clear hcz20_2
       try clear hcz20_3
       try clear hcz22_0
       try clear hcz22_1
       try clear hcz22_2
       try clear hcz22_3
       try clear hcz27_0
       try clear hcz27_1
       try clear hcz27_2
       try clear hcz27_3
       try clear hcz29_0
       try clear hcz29_1
       try clear hcz29_2
       try clear hcz29_3
       try clear hcz7_0
       try clear hcz7_1
       try clear hcz7_2
       try clear hfz10_0
       try clear hfz10_1
       try clear hfz10_2
       try clear hfz10_3
       try clear hfz11_0
       try clear hfz11_1
       try clear hfz11_2
       try clear hfz14_0
       try clear hfz14_1
       try clear hfz14_2
       try clear hfz14_3
       try clear hfz17_0
       try clear hfz17_1
       try clear hfz17_2
       try clear hfz17_3
       try clear hfz20_0
       try clear hfz20_1
       try clear hfz20_2
       try clear hfz20_3
       try clear hfz22_0
       try clear hfz22_1
       try clear hfz22_2
       try clear hfz22_3
       try clear hfz27_0
       try clear hfz27_1
       try clear hfz27_2
       try clear hfz27_3
       try clear hfz29_0
       try clear hfz29_1
       try clear hfz29_2
       try clear hfz29_3
       try clear hfz7_0
       try clear hfz7_1
       try clear hfz7_2
       try clear hx142_0
       try clear hx142_1
       try clear hx142_2
       try clear hx142_3
       try clear p1
       try clear p14
       try clear p142
       try clear p2
       try clear q1
       try clear q14
       try clear q142
       obtain ⟨kq, x43_23, rfl, HA, HJ23, BK141, BK143, HB⟩ := hcut
       cases kq with
       | zero => exact absurd HA.out (by simp [super_checkEdge.j1])
       | succ kj23 =>
        have H := HA.out
        clear HA
        simp only [super_checkEdge.j1] at H
        by_cases c30 : x43_23 = true
        ·subst c30
         have H1 : (some 12) = some r := by rw [if_pos rfl] at H; exact H
         clear H
         have H := H1
         clear H1
         obtain rfl := Option.some.inj H
         go_wp2
         go_ret
         exact ⟨by first | rfl | (simp [errW_none, errW_some] <;> rfl) | (simp [*, errW_none, errW_some] <;> rfl), by repeat (first | (with_reducible first | exact HB.out | apply qw1 | apply qw2 | apply qw3 | refine qw4 ?_ GE141.out | refine qw4 ?_ GE143.out) | exact HB.out)⟩
        ·replace c30 := Bool.eq_false_iff.mpr c30
         subst c30
         have H1 : (if ((rd_T32 l0_1 a1).f2) = 1 then (super_checkEdge.j2 kj23 a1 (l0_0.length : Int) true l0_0 l0_1 a0_2 ((rd_T32 l0_1 a1).f0) ((rd_T32 l0_1 a1).f1) ((rd_T32 l0_1 a1).f2) ((rd_T32 l0_1 a1).f3)) else (super_checkEdge.j2 kj23 a1 (l0_0.length : Int) (((rd_T32 l0_1 a1).f2) == 5) l0_0 l0_1 a0_2 ((rd_T32 l0_1 a1).f0) ((rd_T32 l0_1 a1).f1) ((rd_T32 l0_1 a1).f2) ((rd_T32 l0_1 a1).f3))) = some r := by rw [if_neg (show ¬ (false = true) by decide)] at H; exact H
         clear H
         have H := H1
         clear H1
         have HC31 := qam H
         clear H
         go_upto_region 7 with (fail)
         go_cut [7] (fun v7 wc => ∃ (kq : Nat) (x7_30 : Bool), v7 = .bool x7_30 ∧ Aside0 (super_checkEdge.j2 kq a1 (l0_0.length : Int) x7_30 l0_0 l0_1 a0_2 ((rd_T32 l0_1 a1).f0) ((rd_T32 l0_1 a1).f1) ((rd_T32 l0_1 a1).f2) ((rd_T32 l0_1 a1).f3) = some r) ∧ Aside0 (kq ≤ kj23) ∧ Aside0 (wc.heap[gb141]? = some (.cells #[(.slice A0_0 l0_0.length c0_0), (.slice (some ad142) l0_1.length c0_1), .int .i64 a0_2] 25 (0, 0))) ∧ Aside0 (wc.heap[gb143]? = some (.cells #[.int .i64 ((rd_T32 l0_1 a1).f0), .int .i64 ((rd_T32 l0_1 a1).f1), .int .i64 ((rd_T32 l0_1 a1).f2), .int .i64 ((rd_T32 l0_1 a1).f3)] 32 (0, 0))) ∧ Aside0 (Below w.heap.size w wc))
         case first =>
          have H := HC31.out
          clear HC31
          by_cases c32 : ((rd_T32 l0_1 a1).f2) = 1
          ·rw [if_pos c32] at H
           have c32b0 : (((rd_T32 l0_1 a1).f2) == 1) = true := beq_iff_eq.mpr c32
           have c32b1 : (((rd_T32 l0_1 a1).f2) != 1) = false := bne_eq_false_iff_eq.mpr c32
           clear c32
           (first | rw [c32b0] | (simp only [i64_w, i32_w]; rw [c32b0]) | skip)
           have H' := qam H
           clear H
           have hnb33 := NB143_141.out
           have hnc33 := NB141_143.out
           have hcz34_0 : wc.cell? ⟨gb143, 0, none⟩ = some (.int .i64 ((rd_T32 l0_1 a1).f0)) := (qb1 BK143.out 0).trans rfl
           have hcz34_1 : wc.cell? ⟨gb143, 1, none⟩ = some (.int .i64 ((rd_T32 l0_1 a1).f1)) := (qb1 BK143.out 1).trans rfl
           have hcz34_2 : wc.cell? ⟨gb143, 2, none⟩ = some (.int .i64 ((rd_T32 l0_1 a1).f2)) := (qb1 BK143.out 2).trans rfl
           have hcz34_3 : wc.cell? ⟨gb143, 3, none⟩ = some (.int .i64 ((rd_T32 l0_1 a1).f3)) := (qb1 BK143.out 3).trans rfl
           have hfz34_0 := qb2 BK143.out 0
           have hfz34_1 := qb2 BK143.out 1
           have hfz34_2 := qb2 BK143.out 2
           have hfz34_3 := qb2 BK143.out 3
           go_wp2
           go_meet
           case rel => exact ⟨_, (true), (by first | rfl | (simp; done) | (simp [*]; done)), H', ⟨by have := HJ4.out; have := HJ23.out; first | omega | exact Nat.le_refl _⟩, ⟨by (with_reducible repeat (first | refine qb3 ?_ _ | refine qb5 ?_ | refine qb4 ?_ _)); exact BK141.out⟩, ⟨by (with_reducible repeat (first | refine qb3 ?_ _ | refine qb5 ?_ | refine qb4 ?_ _)); exact BK143.out⟩, ⟨by repeat (first | (with_reducible first | exact HB.out | apply qw1 | apply qw2 | apply qw3 | refine qw4 ?_ GE141.out | refine qw4 ?_ GE143.out) | exact HB.out)⟩⟩
          ·rw [if_neg c32] at H
           have c32b0 : (((rd_T32 l0_1 a1).f2) == 1) = false := beq_eq_false_iff_ne.mpr c32
           have c32b1 : (((rd_T32 l0_1 a1).f2) != 1) = true := bne_iff_ne.mpr c32
           (first | rw [c32b0] | (simp only [i64_w, i32_w]; rw [c32b0]) | skip)
           have H' := qam H
           clear H
           have hnb35 := NB143_141.out
           have hnc35 := NB141_143.out
           have hcz36_0 : wc.cell? ⟨gb143, 0, none⟩ = some (.int .i64 ((rd_T32 l0_1 a1).f0)) := (qb1 BK143.out 0).trans rfl
           have hcz36_1 : wc.cell? ⟨gb143, 1, none⟩ = some (.int .i64 ((rd_T32 l0_1 a1).f1)) := (qb1 BK143.out 1).trans rfl
           have hcz36_2 : wc.cell? ⟨gb143, 2, none⟩ = some (.int .i64 ((rd_T32 l0_1 a1).f2)) := (qb1 BK143.out 2).trans rfl
           have hcz36_3 : wc.cell? ⟨gb143, 3, none⟩ = some (.int .i64 ((rd_T32 l0_1 a1).f3)) := (qb1 BK143.out 3).trans rfl
           have hfz36_0 := qb2 BK143.out 0
           have hfz36_1 := qb2 BK143.out 1
           have hfz36_2 := qb2 BK143.out 2
           have hfz36_3 := qb2 BK143.out 3
           go_wp2
           go_meet
           case rel => exact ⟨_, ((((rd_T32 l0_1 a1).f2) == 5)), (by first | rfl | (simp; done) | (simp [*]; done)), H', ⟨by have := HJ4.out; have := HJ23.out; first | omega | exact Nat.le_refl _⟩, ⟨by (with_reducible repeat (first | refine qb3 ?_ _ | refine qb5 ?_ | refine qb4 ?_ _)); exact BK141.out⟩, ⟨by (with_reducible repeat (first | refine qb3 ?_ _ | refine qb5 ?_ | refine qb4 ?_ _)); exact BK143.out⟩, ⟨by repeat (first | (with_reducible first | exact HB.out | apply qw1 | apply qw2 | apply qw3 | refine qw4 ?_ GE141.out | refine qw4 ?_ GE143.out) | exact HB.out)⟩⟩
         case rest =>
          clear HC31
          try clear c1
          try clear p1
          try clear q1
          try clear hx1
          try clear c2
          try clear p2
          try clear c3
          try clear c3b0
          try clear c4
          try clear c4b0
          try clear c9
          try clear c11
          try clear c12
          try clear c12b0
          try clear c13
          try clear p14
          try clear q14
          try clear hx14
          try clear c15
          try clear c15b0
          try clear c16
          try clear c18
          try clear c18b0
          try clear c19
          try clear c21
          try clear c23
          try clear c25
          try clear c25b0
          try clear c26
          try clear c28
          try clear c30
          try clear c32
          try clear c32b0
          try clear c32b1
          try clear c33
          try clear c35
          try clear hcz10_0
          try clear hcz10_1
          try clear hcz10_2
          try clear hcz10_3
          try clear hcz11_0
          try clear hcz11_1
          try clear hcz11_2
          try clear hcz14_0
          try clear hcz14_1
          try clear hcz14_2
          try clear hcz14_3
          try clear hcz17_0
          try clear hcz17_1
          try clear hcz17_2
          try clear hcz17_3
          try clear hcz20_0
          try clear hcz20_1
          try clear hcz20_2
          try clear hcz20_3
          try clear hcz22_0
          try clear hcz22_1
          try clear hcz22_2
          try clear hcz22_3
          try clear hcz27_0
          try clear hcz27_1
          try clear hcz27_2
          try clear hcz27_3
          try clear hcz29_0
          try clear hcz29_1
          try clear hcz29_2
          try clear hcz29_3
          try clear hcz34_0
          try clear hcz34_1
          try clear hcz34_2
          try clear hcz34_3
          try clear hcz36_0
          try clear hcz36_1
          try clear hcz36_2
          try clear hcz36_3
          try clear hcz7_0
          try clear hcz7_1
          try clear hcz7_2
          try clear hfz10_0
          try clear hfz10_1
          try clear hfz10_2
          try clear hfz10_3
          try clear hfz11_0
          try clear hfz11_1
          try clear hfz11_2
          try clear hfz14_0
          try clear hfz14_1
          try clear hfz14_2
          try clear hfz14_3
          try clear hfz17_0
          try clear hfz17_1
          try clear hfz17_2
          try clear hfz17_3
          try clear hfz20_0
          try clear hfz20_1
          try clear hfz20_2
          try clear hfz20_3
          try clear hfz22_0
          try clear hfz22_1
          try clear hfz22_2
          try clear hfz22_3
          try clear hfz27_0
          try clear hfz27_1
          try clear hfz27_2
          try clear hfz27_3
          try clear hfz29_0
          try clear hfz29_1
          try clear hfz29_2
          try clear hfz29_3
          try clear hfz34_0
          try clear hfz34_1
          try clear hfz34_2
          try clear hfz34_3
          try clear hfz36_0
          try clear hfz36_1
          try clear hfz36_2
          try clear hfz36_3
          try clear hfz7_0
          try clear hfz7_1
          try clear hfz7_2
          try clear hx142_0
          try clear hx142_1
          try clear hx142_2
          try clear hx142_3
          try clear p1
          try clear p14
          try clear p142
          try clear p2
          try clear q1
          try clear q14
          try clear q142
          obtain ⟨kq, x7_30, rfl, HA, HJ30, BK141, BK143, HB⟩ := hcut
          cases kq with
          | zero => exact absurd HA.out (by simp [super_checkEdge.j2])
          | succ kj30 =>
           have H := HA.out
           clear HA
           simp only [super_checkEdge.j2] at H
           have HC37 := qam H
           clear H
           go_upto_region 8 with (fail)
           go_cut [52] (fun v52 wc => ∃ (kq : Nat) (x52_36 : Bool), v52 = .bool x52_36 ∧ Aside0 (super_checkEdge.j3 kq a1 x52_36 l0_0 l0_1 a0_2 ((rd_T32 l0_1 a1).f0) ((rd_T32 l0_1 a1).f1) ((rd_T32 l0_1 a1).f2) ((rd_T32 l0_1 a1).f3) = some r) ∧ Aside0 (kq ≤ kj30) ∧ Aside0 (wc.heap[gb141]? = some (.cells #[(.slice A0_0 l0_0.length c0_0), (.slice (some ad142) l0_1.length c0_1), .int .i64 a0_2] 25 (0, 0))) ∧ Aside0 (wc.heap[gb143]? = some (.cells #[.int .i64 ((rd_T32 l0_1 a1).f0), .int .i64 ((rd_T32 l0_1 a1).f1), .int .i64 ((rd_T32 l0_1 a1).f2), .int .i64 ((rd_T32 l0_1 a1).f3)] 32 (0, 0))) ∧ Aside0 (Below w.heap.size w wc))
           case first =>
            have H := HC37.out
            clear HC37
            by_cases c38 : x7_30 = true
            ·subst c38
             have H1 : (if ((rd_T32 l0_1 a1).f3) = (-1) then (super_checkEdge.j3 kj30 a1 false l0_0 l0_1 a0_2 ((rd_T32 l0_1 a1).f0) ((rd_T32 l0_1 a1).f1) ((rd_T32 l0_1 a1).f2) ((rd_T32 l0_1 a1).f3)) else (super_checkEdge.j3 kj30 a1 true l0_0 l0_1 a0_2 ((rd_T32 l0_1 a1).f0) ((rd_T32 l0_1 a1).f1) ((rd_T32 l0_1 a1).f2) ((rd_T32 l0_1 a1).f3))) = some r := by rw [if_pos rfl] at H; exact H
             clear H
             have H := H1
             clear H1
             by_cases c39 : ((rd_T32 l0_1 a1).f3) = (-1)
             ·rw [if_pos c39] at H
              have c39b0 : (((rd_T32 l0_1 a1).f3) == (-1)) = true := beq_iff_eq.mpr c39
              have c39b1 : (((rd_T32 l0_1 a1).f3) != (-1)) = false := bne_eq_false_iff_eq.mpr c39
              clear c39
              (first | rw [c39b0] | (simp only [i64_w, i32_w]; rw [c39b0]) | skip)
              have H' := qam H
              clear H
              have hnb40 := NB143_141.out
              have hnc40 := NB141_143.out
              have hcz41_0 : wc.cell? ⟨gb143, 0, none⟩ = some (.int .i64 ((rd_T32 l0_1 a1).f0)) := (qb1 BK143.out 0).trans rfl
              have hcz41_1 : wc.cell? ⟨gb143, 1, none⟩ = some (.int .i64 ((rd_T32 l0_1 a1).f1)) := (qb1 BK143.out 1).trans rfl
              have hcz41_2 : wc.cell? ⟨gb143, 2, none⟩ = some (.int .i64 ((rd_T32 l0_1 a1).f2)) := (qb1 BK143.out 2).trans rfl
              have hcz41_3 : wc.cell? ⟨gb143, 3, none⟩ = some (.int .i64 ((rd_T32 l0_1 a1).f3)) := (qb1 BK143.out 3).trans rfl
              have hfz41_0 := qb2 BK143.out 0
              have hfz41_1 := qb2 BK143.out 1
              have hfz41_2 := qb2 BK143.out 2
              have hfz41_3 := qb2 BK143.out 3
              go_wp2
              go_meet
              case rel => exact ⟨_, (false), (by first | rfl | (simp; done) | (simp [*]; done)), H', ⟨by have := HJ4.out; have := HJ23.out; have := HJ30.out; first | omega | exact Nat.le_refl _⟩, ⟨by (with_reducible repeat (first | refine qb3 ?_ _ | refine qb5 ?_ | refine qb4 ?_ _)); exact BK141.out⟩, ⟨by (with_reducible repeat (first | refine qb3 ?_ _ | refine qb5 ?_ | refine qb4 ?_ _)); exact BK143.out⟩, ⟨by repeat (first | (with_reducible first | exact HB.out | apply qw1 | apply qw2 | apply qw3 | refine qw4 ?_ GE141.out | refine qw4 ?_ GE143.out) | exact HB.out)⟩⟩
             ·rw [if_neg c39] at H
              have c39b0 : (((rd_T32 l0_1 a1).f3) == (-1)) = false := beq_eq_false_iff_ne.mpr c39
              have c39b1 : (((rd_T32 l0_1 a1).f3) != (-1)) = true := bne_iff_ne.mpr c39
              (first | rw [c39b0] | (simp only [i64_w, i32_w]; rw [c39b0]) | skip)
              have H' := qam H
              clear H
              have hnb42 := NB143_141.out
              have hnc42 := NB141_143.out
              have hcz43_0 : wc.cell? ⟨gb143, 0, none⟩ = some (.int .i64 ((rd_T32 l0_1 a1).f0)) := (qb1 BK143.out 0).trans rfl
              have hcz43_1 : wc.cell? ⟨gb143, 1, none⟩ = some (.int .i64 ((rd_T32 l0_1 a1).f1)) := (qb1 BK143.out 1).trans rfl
              have hcz43_2 : wc.cell? ⟨gb143, 2, none⟩ = some (.int .i64 ((rd_T32 l0_1 a1).f2)) := (qb1 BK143.out 2).trans rfl
              have hcz43_3 : wc.cell? ⟨gb143, 3, none⟩ = some (.int .i64 ((rd_T32 l0_1 a1).f3)) := (qb1 BK143.out 3).trans rfl
              have hfz43_0 := qb2 BK143.out 0
              have hfz43_1 := qb2 BK143.out 1
              have hfz43_2 := qb2 BK143.out 2
              have hfz43_3 := qb2 BK143.out 3
              go_wp2
              go_meet
              case rel => exact ⟨_, (true), (by first | rfl | (simp; done) | (simp [*]; done)), H', ⟨by have := HJ4.out; have := HJ23.out; have := HJ30.out; first | omega | exact Nat.le_refl _⟩, ⟨by (with_reducible repeat (first | refine qb3 ?_ _ | refine qb5 ?_ | refine qb4 ?_ _)); exact BK141.out⟩, ⟨by (with_reducible repeat (first | refine qb3 ?_ _ | refine qb5 ?_ | refine qb4 ?_ _)); exact BK143.out⟩, ⟨by repeat (first | (with_reducible first | exact HB.out | apply qw1 | apply qw2 | apply qw3 | refine qw4 ?_ GE141.out | refine qw4 ?_ GE143.out) | exact HB.out)⟩⟩
            ·replace c38 := Bool.eq_false_iff.mpr c38
             subst c38
             have H1 : (if ((rd_T32 l0_1 a1).f3) < 0 then (super_checkEdge.j3 kj30 a1 true l0_0 l0_1 a0_2 ((rd_T32 l0_1 a1).f0) ((rd_T32 l0_1 a1).f1) ((rd_T32 l0_1 a1).f2) ((rd_T32 l0_1 a1).f3)) else (super_checkEdge.j3 kj30 a1 (decide (((rd_T32 l0_1 a1).f3) ≥ (l0_0.length : Int))) l0_0 l0_1 a0_2 ((rd_T32 l0_1 a1).f0) ((rd_T32 l0_1 a1).f1) ((rd_T32 l0_1 a1).f2) ((rd_T32 l0_1 a1).f3))) = some r := by rw [if_neg (show ¬ (false = true) by decide)] at H; exact H
             clear H
             have H := H1
             clear H1
             by_cases c44 : ((rd_T32 l0_1 a1).f3) < 0
             ·rw [if_pos c44] at H
              have c44b0 : decide (((rd_T32 l0_1 a1).f3) < 0) = true := decide_eq_true c44
              clear c44
              have H' := qam H
              clear H
              have hnb45 := NB143_141.out
              have hnc45 := NB141_143.out
              have hcz46_0 : wc.cell? ⟨gb143, 0, none⟩ = some (.int .i64 ((rd_T32 l0_1 a1).f0)) := (qb1 BK143.out 0).trans rfl
              have hcz46_1 : wc.cell? ⟨gb143, 1, none⟩ = some (.int .i64 ((rd_T32 l0_1 a1).f1)) := (qb1 BK143.out 1).trans rfl
              have hcz46_2 : wc.cell? ⟨gb143, 2, none⟩ = some (.int .i64 ((rd_T32 l0_1 a1).f2)) := (qb1 BK143.out 2).trans rfl
              have hcz46_3 : wc.cell? ⟨gb143, 3, none⟩ = some (.int .i64 ((rd_T32 l0_1 a1).f3)) := (qb1 BK143.out 3).trans rfl
              have hfz46_0 := qb2 BK143.out 0
              have hfz46_1 := qb2 BK143.out 1
              have hfz46_2 := qb2 BK143.out 2
              have hfz46_3 := qb2 BK143.out 3
              go_wp2
              go_meet
              case rel => exact ⟨_, (true), (by first | rfl | (simp; done) | (simp [*]; done)), H', ⟨by have := HJ4.out; have := HJ23.out; have := HJ30.out; first | omega | exact Nat.le_refl _⟩, ⟨by (with_reducible repeat (first | refine qb3 ?_ _ | refine qb5 ?_ | refine qb4 ?_ _)); exact BK141.out⟩, ⟨by (with_reducible repeat (first | refine qb3 ?_ _ | refine qb5 ?_ | refine qb4 ?_ _)); exact BK143.out⟩, ⟨by repeat (first | (with_reducible first | exact HB.out | apply qw1 | apply qw2 | apply qw3 | refine qw4 ?_ GE141.out | refine qw4 ?_ GE143.out) | exact HB.out)⟩⟩
             ·rw [if_neg c44] at H
              have c44b0 : decide (((rd_T32 l0_1 a1).f3) < 0) = false := decide_eq_false c44
              clear c44
              have H' := qam H
              clear H
              have hnb47 := NB143_141.out
              have hnc47 := NB141_143.out
              have hcz48_0 : wc.cell? ⟨gb143, 0, none⟩ = some (.int .i64 ((rd_T32 l0_1 a1).f0)) := (qb1 BK143.out 0).trans rfl
              have hcz48_1 : wc.cell? ⟨gb143, 1, none⟩ = some (.int .i64 ((rd_T32 l0_1 a1).f1)) := (qb1 BK143.out 1).trans rfl
              have hcz48_2 : wc.cell? ⟨gb143, 2, none⟩ = some (.int .i64 ((rd_T32 l0_1 a1).f2)) := (qb1 BK143.out 2).trans rfl
              have hcz48_3 : wc.cell? ⟨gb143, 3, none⟩ = some (.int .i64 ((rd_T32 l0_1 a1).f3)) := (qb1 BK143.out 3).trans rfl
              have hfz48_0 := qb2 BK143.out 0
              have hfz48_1 := qb2 BK143.out 1
              have hfz48_2 := qb2 BK143.out 2
              have hfz48_3 := qb2 BK143.out 3
              go_wp2
              go_meet
              case rel => exact ⟨_, (decide (((rd_T32 l0_1 a1).f3) ≥ (l0_0.length : Int))), (by first | rfl | (simp; done) | (simp [*]; done)), H', ⟨by have := HJ4.out; have := HJ23.out; have := HJ30.out; first | omega | exact Nat.le_refl _⟩, ⟨by (with_reducible repeat (first | refine qb3 ?_ _ | refine qb5 ?_ | refine qb4 ?_ _)); exact BK141.out⟩, ⟨by (with_reducible repeat (first | refine qb3 ?_ _ | refine qb5 ?_ | refine qb4 ?_ _)); exact BK143.out⟩, ⟨by repeat (first | (with_reducible first | exact HB.out | apply qw1 | apply qw2 | apply qw3 | refine qw4 ?_ GE141.out | refine qw4 ?_ GE143.out) | exact HB.out)⟩⟩
           case rest =>
            clear HC37
            try clear c1
            try clear p1
            try clear q1
            try clear hx1
            try clear c2
            try clear p2
            try clear c3
            try clear c3b0
            try clear c4
            try clear c4b0
            try clear c9
            try clear c11
            try clear c12
            try clear c12b0
            try clear c13
            try clear p14
            try clear q14
            try clear hx14
            try clear c15
            try clear c15b0
            try clear c16
            try clear c18
            try clear c18b0
            try clear c19
            try clear c21
            try clear c23
            try clear c25
            try clear c25b0
            try clear c26
            try clear c28
            try clear c30
            try clear c32
            try clear c32b0
            try clear c32b1
            try clear c33
            try clear c35
            try clear c38
            try clear c39
            try clear c39b0
            try clear c39b1
            try clear c40
            try clear c42
            try clear c44
            try clear c44b0
            try clear c45
            try clear c47
            try clear hcz10_0
            try clear hcz10_1
            try clear hcz10_2
            try clear hcz10_3
            try clear hcz11_0
            try clear hcz11_1
            try clear hcz11_2
            try clear hcz14_0
            try clear hcz14_1
            try clear hcz14_2
            try clear hcz14_3
            try clear hcz17_0
            try clear hcz17_1
            try clear hcz17_2
            try clear hcz17_3
            try clear hcz20_0
            try clear hcz20_1
            try clear hcz20_2
            try clear hcz20_3
            try clear hcz22_0
            try clear hcz22_1
            try clear hcz22_2
            try clear hcz22_3
            try clear hcz27_0
            try clear hcz27_1
            try clear hcz27_2
            try clear hcz27_3
            try clear hcz29_0
            try clear hcz29_1
            try clear hcz29_2
            try clear hcz29_3
            try clear hcz34_0
            try clear hcz34_1
            try clear hcz34_2
            try clear hcz34_3
            try clear hcz36_0
            try clear hcz36_1
            try clear hcz36_2
            try clear hcz36_3
            try clear hcz41_0
            try clear hcz41_1
            try clear hcz41_2
            try clear hcz41_3
            try clear hcz43_0
            try clear hcz43_1
            try clear hcz43_2
            try clear hcz43_3
            try clear hcz46_0
            try clear hcz46_1
            try clear hcz46_2
            try clear hcz46_3
            try clear hcz48_0
            try clear hcz48_1
            try clear hcz48_2
            try clear hcz48_3
            try clear hcz7_0
            try clear hcz7_1
            try clear hcz7_2
            try clear hfz10_0
            try clear hfz10_1
            try clear hfz10_2
            try clear hfz10_3
            try clear hfz11_0
            try clear hfz11_1
            try clear hfz11_2
            try clear hfz14_0
            try clear hfz14_1
            try clear hfz14_2
            try clear hfz14_3
            try clear hfz17_0
            try clear hfz17_1
            try clear hfz17_2
            try clear hfz17_3
            try clear hfz20_0
            try clear hfz20_1
            try clear hfz20_2
            try clear hfz20_3
            try clear hfz22_0
            try clear hfz22_1
            try clear hfz22_2
            try clear hfz22_3
            try clear hfz27_0
            try clear hfz27_1
            try clear hfz27_2
            try clear hfz27_3
            try clear hfz29_0
            try clear hfz29_1
            try clear hfz29_2
            try clear hfz29_3
            try clear hfz34_0
            try clear hfz34_1
            try clear hfz34_2
            try clear hfz34_3
            try clear hfz36_0
            try clear hfz36_1
            try clear hfz36_2
            try clear hfz36_3
            try clear hfz41_0
            try clear hfz41_1
            try clear hfz41_2
            try clear hfz41_3
            try clear hfz43_0
            try clear hfz43_1
            try clear hfz43_2
            try clear hfz43_3
            try clear hfz46_0
            try clear hfz46_1
            try clear hfz46_2
            try clear hfz46_3
            try clear hfz48_0
            try clear hfz48_1
            try clear hfz48_2
            try clear hfz48_3
            try clear hfz7_0
            try clear hfz7_1
            try clear hfz7_2
            try clear hx142_0
            try clear hx142_1
            try clear hx142_2
            try clear hx142_3
            try clear p1
            try clear p14
            try clear p142
            try clear p2
            try clear q1
            try clear q14
            try clear q142
            obtain ⟨kq, x52_36, rfl, HA, HJ36, BK141, BK143, HB⟩ := hcut
            cases kq with
            | zero => exact absurd HA.out (by simp [super_checkEdge.j3])
            | succ kj36 =>
             have H := HA.out
             clear HA
             simp only [super_checkEdge.j3] at H
             by_cases c49 : x52_36 = true
             ·subst c49
              have H1 : (some 4) = some r := by rw [if_pos rfl] at H; exact H
              clear H
              have H := H1
              clear H1
              obtain rfl := Option.some.inj H
              go_wp2
              go_ret
              exact ⟨by first | rfl | (simp [errW_none, errW_some] <;> rfl) | (simp [*, errW_none, errW_some] <;> rfl), by repeat (first | (with_reducible first | exact HB.out | apply qw1 | apply qw2 | apply qw3 | refine qw4 ?_ GE141.out | refine qw4 ?_ GE143.out) | exact HB.out)⟩
             ·replace c49 := Bool.eq_false_iff.mpr c49
              subst c49
              have H1 : (if a1 > 0 then (if 0 ≤ (wrap64 (a1 - 1)) then (if (wrap64 (a1 - 1)) < (l0_1.length : Int) then ((super_compareEdges.f kj36 ((rd_T32 l0_1 (wrap64 (a1 - 1))).f0) ((rd_T32 l0_1 (wrap64 (a1 - 1))).f1) ((rd_T32 l0_1 (wrap64 (a1 - 1))).f2) ((rd_T32 l0_1 (wrap64 (a1 - 1))).f3) ((rd_T32 l0_1 a1).f0) ((rd_T32 l0_1 a1).f1) ((rd_T32 l0_1 a1).f2) ((rd_T32 l0_1 a1).f3)).bind fun t145 => (super_checkEdge.j4 kj36 (decide (t145 ≥ 0)) l0_0 l0_1 a0_2 ((rd_T32 l0_1 a1).f0) ((rd_T32 l0_1 a1).f1) ((rd_T32 l0_1 a1).f2) ((rd_T32 l0_1 a1).f3))) else (none)) else (none)) else (super_checkEdge.j4 kj36 false l0_0 l0_1 a0_2 ((rd_T32 l0_1 a1).f0) ((rd_T32 l0_1 a1).f1) ((rd_T32 l0_1 a1).f2) ((rd_T32 l0_1 a1).f3))) = some r := by rw [if_neg (show ¬ (false = true) by decide)] at H; exact H
              clear H
              have H := H1
              clear H1
              have HC50 := qam H
              clear H
              go_upto_region 10 with (fail)
              go_cut [74] (fun v74 wc => ∃ (kq : Nat) (x74_49 : Bool), v74 = .bool x74_49 ∧ Aside0 (super_checkEdge.j4 kq x74_49 l0_0 l0_1 a0_2 ((rd_T32 l0_1 a1).f0) ((rd_T32 l0_1 a1).f1) ((rd_T32 l0_1 a1).f2) ((rd_T32 l0_1 a1).f3) = some r) ∧ Aside0 (kq ≤ kj36) ∧ Aside0 (wc.heap[gb141]? = some (.cells #[(.slice A0_0 l0_0.length c0_0), (.slice (some ad142) l0_1.length c0_1), .int .i64 a0_2] 25 (0, 0))) ∧ Aside0 (wc.heap[gb143]? = some (.cells #[.int .i64 ((rd_T32 l0_1 a1).f0), .int .i64 ((rd_T32 l0_1 a1).f1), .int .i64 ((rd_T32 l0_1 a1).f2), .int .i64 ((rd_T32 l0_1 a1).f3)] 32 (0, 0))) ∧ Aside0 (Below w.heap.size w wc))
              case first =>
               have H := HC50.out
               clear HC50
               by_cases c51 : a1 > 0
               ·rw [if_pos c51] at H
                have c51b0 : decide (0 < a1) = true := decide_eq_true c51
                clear c51
                (first | rw [c51b0] | (simp only [i64_w, i32_w]; rw [c51b0]) | skip)
                obtain ⟨ji52, hji52⟩ : ∃ j_ : Int, (wrap64 (a1 - 1)) = j_ := ⟨_, rfl⟩
                replace H : (if 0 ≤ (ji52) then (if (ji52) < (l0_1.length : Int) then ((super_compareEdges.f kj36 ((rd_T32 l0_1 (ji52)).f0) ((rd_T32 l0_1 (ji52)).f1) ((rd_T32 l0_1 (ji52)).f2) ((rd_T32 l0_1 (ji52)).f3) ((rd_T32 l0_1 a1).f0) ((rd_T32 l0_1 a1).f1) ((rd_T32 l0_1 a1).f2) ((rd_T32 l0_1 a1).f3)).bind fun t145 => (super_checkEdge.j4 kj36 (decide (t145 ≥ 0)) l0_0 l0_1 a0_2 ((rd_T32 l0_1 a1).f0) ((rd_T32 l0_1 a1).f1) ((rd_T32 l0_1 a1).f2) ((rd_T32 l0_1 a1).f3))) else (none)) else (none)) = some r := by first | (rw [hji52] at H; exact H) | (simp only [hji52] at H ⊢; exact H)
                have hji52w : (IntKind.i64.wrap (a1 - 1)) = ji52 := (i64_w _).trans hji52
                by_cases c53 : 0 ≤ (ji52)
                ·rw [if_pos c53] at H
                 have c53b0 : decide (0 ≤ (ji52)) = true := decide_eq_true c53
                 clear c53
                 by_cases c54 : (ji52) < (l0_1.length : Int)
                 ·rw [if_pos c54] at H
                  have c54b0 : decide ((ji52) < (l0_1.length : Int)) = true := decide_eq_true c54
                  clear c54
                  replace H := Option.bind_eq_some_iff.mp H
                  obtain ⟨t145, A550, H⟩ := H
                  replace H : (super_checkEdge.j4 kj36 (decide (t145 ≥ 0)) l0_0 l0_1 a0_2 ((rd_T32 l0_1 a1).f0) ((rd_T32 l0_1 a1).f1) ((rd_T32 l0_1 a1).f2) ((rd_T32 l0_1 a1).f3)) = some r := H
                  have A55 := qam A550
                  clear A550
                  have H' := qam H
                  clear H
                  try go_wp2
                  have n0_ := qam (qb5 BK141.out)
                  have n1_ := qam (qb5 BK143.out)
                  have n2_ := qam (qw3 HB.out)
                  clear BK141
                  clear BK143
                  clear HB
                  have BK141 := n0_
                  have BK143 := n1_
                  have HB := n2_
                  clear n0_ n1_ n2_
                  have p144 : 0 ≤ ((ji52) : Int) := of_decide_eq_true (by first | (with_reducible assumption) | assumption)
                  have q144 : (ji52) < (l0_1.length : Int) := of_decide_eq_true (by first | (with_reducible assumption) | assumption)
                  obtain ⟨ad144, e144, hx144_0, hx144_1, hx144_2, hx144_3⟩ := at_T32 HR0_1.out (ji52) p144 q144
                  have hw144_3 := hx144_3
                  have hw144_2 := hx144_2
                  have hw144_1 := hx144_1
                  have hw144_0 := hx144_0
                  obtain rfl : ad142 = ad144 := (by injection e144)
                  replace hx144_0 := (HB.out.cell (qbl w _ hx144_0)).trans hx144_0
                  replace hx144_1 := (HB.out.cell (qbl w _ hx144_1)).trans hx144_1
                  replace hx144_2 := (HB.out.cell (qbl w _ hx144_2)).trans hx144_2
                  replace hx144_3 := (HB.out.cell (qbl w _ hx144_3)).trans hx144_3
                  replace p144 := eq_true p144
                  replace q144 := eq_true q144
                  refine start_ (n := 14) (S := fun w' => w'.cell? ⟨gb141, 0, none⟩ = some (.slice A0_0 l0_0.length c0_0) ∧ w'.cell? ⟨gb141, 1, none⟩ = some (.slice (some ad142) l0_1.length c0_1) ∧ w'.cell? ⟨gb141, 2, none⟩ = some (.int .i64 a0_2) ∧ w'.cell? ⟨gb143, 0, none⟩ = some (.int .i64 ((rd_T32 l0_1 a1).f0)) ∧ w'.cell? ⟨gb143, 1, none⟩ = some (.int .i64 ((rd_T32 l0_1 a1).f1)) ∧ w'.cell? ⟨gb143, 2, none⟩ = some (.int .i64 ((rd_T32 l0_1 a1).f2)) ∧ w'.cell? ⟨gb143, 3, none⟩ = some (.int .i64 ((rd_T32 l0_1 a1).f3)) ∧ w'.cell? (ad142.add (((ji52)).toNat * 4)) = some (.int .i64 ((rd_T32 l0_1 (ji52)).f0)) ∧ w'.cell? ⟨(ad142.add (((ji52)).toNat * 4)).block, (ad142.add (((ji52)).toNat * 4)).off + 1, none⟩ = some (.int .i64 ((rd_T32 l0_1 (ji52)).f1)) ∧ w'.cell? ⟨(ad142.add (((ji52)).toNat * 4)).block, (ad142.add (((ji52)).toNat * 4)).off + 2, none⟩ = some (.int .i64 ((rd_T32 l0_1 (ji52)).f2)) ∧ w'.cell? ⟨(ad142.add (((ji52)).toNat * 4)).block, (ad142.add (((ji52)).toNat * 4)).off + 3, none⟩ = some (.int .i64 ((rd_T32 l0_1 (ji52)).f3))) (ds := []) #[false, false, false, false, false, false, false, false, false, false, false, false, false, false] (by kernel_rfl) rfl rfl ⟨(qb1 BK141.out 0).trans rfl, (qb1 BK141.out 1).trans rfl, (qb1 BK141.out 2).trans rfl, (qb1 BK143.out 0).trans rfl, (qb1 BK143.out 1).trans rfl, (qb1 BK143.out 2).trans rfl, (qb1 BK143.out 3).trans rfl, ((HB.out.cell (qbl w _ hw144_0)).trans hw144_0), ((HB.out.cell (qbl w _ hw144_1)).trans hw144_1), ((HB.out.cell (qbl w _ hw144_2)).trans hw144_2), ((HB.out.cell (qbl w _ hw144_3)).trans hw144_3)⟩ (fun hHeld => ?_); refine with_tabW super_checkEdge.tab10 super_checkEdge.bits10 (fun HT_ HW_ => ?_)
                  generalize wc.drew = w56 at BK141 BK143 HB hx144_0 hx144_1 hx144_2 hx144_3 hHeld ⊢
                  refine pure_ (i := 0) (N := some 75) (v := ?_) (a' := ?_) #[true, false, false, false, false, false, false, false, false, false, false, false, false, false] rfl rfl (any_of HT_.out (by kernel_rfl)) (fun _ _ _ h => h) (Or.inl ⟨by rfl, ?_⟩) ?_ ?_
                  rotate_left
                  ·intro w'
                   go_simp
                   with_reducible rfl
                  rotate_left
                  ·simp only [Act.put, qs1, qs2, qs3, i64_w, i32_w]
                   rfl
                  refine pure_ (i := 1) (N := some 76) (v := ?_) (a' := ?_) #[true, true, false, false, false, false, false, false, false, false, false, false, false, false] rfl rfl (any_of HT_.out (by kernel_rfl)) (fun _ _ _ h => h) (Or.inl ⟨by rfl, ?_⟩) ?_ ?_
                  rotate_left
                  ·intro w'
                   go_simp
                   with_reducible rfl
                  rotate_left
                  ·simp only [Act.put, qs1, qs2, qs3, i64_w, i32_w]
                   rfl
                  refine pure_ (i := 2) (N := some 77) (v := ?_) (a' := ?_) #[true, true, true, false, false, false, false, false, false, false, false, false, false, false] rfl rfl (any_of HT_.out (by kernel_rfl)) (fun _ _ _ h => h) (Or.inl ⟨by rfl, ?_⟩) ?_ ?_
                  rotate_left
                  ·intro w'
                   go_simp
                   with_reducible rfl
                  rotate_left
                  ·simp only [Act.put, qs1, qs2, qs3, i64_w, i32_w]
                   rfl
                  refine pure_ (i := 3) (N := some 78) (v := ?_) (a' := ?_) #[true, true, true, true, false, false, false, false, false, false, false, false, false, false] rfl rfl (any_of HT_.out (by kernel_rfl)) (fun _ _ _ h => h) (Or.inl ⟨by rfl, ?_⟩) ?_ ?_
                  rotate_left
                  ·intro w'
                   go_simp
                   with_reducible rfl
                  rotate_left
                  ·simp only [Act.put, qs1, qs2, qs3, i64_w, i32_w]
                   rfl
                  refine pure_ (i := 5) (N := some 80) (v := ?_) (a' := ?_) #[true, true, true, true, false, true, false, false, false, false, false, false, false, false] rfl rfl (any_of HT_.out (by kernel_rfl)) (fun _ _ _ h => h) (Or.inl ⟨by rfl, ?_⟩) ?_ ?_
                  rotate_left
                  ·intro w'
                   go_simp
                   with_reducible rfl
                  rotate_left
                  ·simp only [Act.put, qs1, qs2, qs3, i64_w, i32_w]
                   rfl
                  refine pure_ (i := 6) (N := some 81) (v := ?_) (a' := ?_) #[true, true, true, true, false, true, true, false, false, false, false, false, false, false] rfl rfl (any_of HT_.out (by kernel_rfl)) (fun _ _ _ h => h) (Or.inl ⟨by rfl, ?_⟩) ?_ ?_
                  rotate_left
                  ·intro w'
                   go_simp
                   with_reducible rfl
                  rotate_left
                  ·simp only [Act.put, qs1, qs2, qs3, i64_w, i32_w]
                   rfl
                  refine take_ (i := 4) (N := some 79) (v := ?_) (a' := ?_) #[true, true, true, true, true, true, true, false, false, false, false, false, false, false] rfl rfl (take_ofW HT_.out HW_.out (by kernel_rfl)) (fun _ _ _ h => h) (Or.inl ⟨by rfl, ?_⟩) hHeld ?_ ?_
                  rotate_left
                  ·rintro w' ⟨s0, s1, s2, s3, s4, s5, s6, s7, s8, s9, s10⟩
                   go_simp
                   with_reducible rfl
                  rotate_left
                  ·simp only [Act.put, qs1, qs2, qs3, i64_w, i32_w]
                   rfl
                  refine pure_ (i := 7) (N := some 82) (v := ?_) (a' := ?_) #[true, true, true, true, true, true, true, true, false, false, false, false, false, false] rfl rfl (any_of HT_.out (by kernel_rfl)) (fun _ _ _ h => h) (Or.inl ⟨by rfl, ?_⟩) ?_ ?_
                  rotate_left
                  ·intro w'
                   go_simp
                   with_reducible rfl
                  rotate_left
                  ·simp only [Act.put, qs1, qs2, qs3, i64_w, i32_w]
                   rfl
                  refine take_ (i := 8) (N := some 83) (v := ?_) (a' := ?_) #[true, true, true, true, true, true, true, true, true, false, false, false, false, false] rfl rfl (take_ofW HT_.out HW_.out (by kernel_rfl)) (fun _ _ _ h => h) (Or.inl ⟨by rfl, ?_⟩) hHeld ?_ ?_
                  rotate_left
                  ·rintro w' ⟨s0, s1, s2, s3, s4, s5, s6, s7, s8, s9, s10⟩
                   go_simp
                   with_reducible rfl
                  rotate_left
                  ·simp only [Act.put, qs1, qs2, qs3, i64_w, i32_w]
                   rfl
                  refine take_ (i := 9) (N := some 84) (v := ?_) (a' := ?_) #[true, true, true, true, true, true, true, true, true, true, false, false, false, false] rfl rfl (take_ofW HT_.out HW_.out (by kernel_rfl)) (fun _ _ _ h => h) (Or.inl ⟨by rfl, ?_⟩) hHeld ?_ ?_
                  rotate_left
                  ·rintro w' ⟨s0, s1, s2, s3, s4, s5, s6, s7, s8, s9, s10⟩
                   go_simp
                   with_reducible rfl
                  rotate_left
                  ·simp only [Act.put, qs1, qs2, qs3, i64_w, i32_w]
                   rfl
                  refine one_ (i := 10) (N := some 85) #[true, true, true, true, true, true, true, true, true, true, true, false, false, false] rfl rfl (one_of HT_.out (by kernel_rfl)) (by decide) (fun K hK => ?_)
                  refine goes_ Try.func149 (by kernel_rfl) rfl #[.agg #[.int .i64 ((rd_T32 l0_1 (ji52)).f0), .int .i64 ((rd_T32 l0_1 (ji52)).f1), .int .i64 ((rd_T32 l0_1 (ji52)).f2), .int .i64 ((rd_T32 l0_1 (ji52)).f3)], .agg #[.int .i64 ((rd_T32 l0_1 a1).f0), .int .i64 ((rd_T32 l0_1 a1).f1), .int .i64 ((rd_T32 l0_1 a1).f2), .int .i64 ((rd_T32 l0_1 a1).f3)]] (by rfl) rfl rfl (by (try simp only [List.map_toArray, List.map_cons, List.map_nil]); first | done | (simp only [hji52]; rfl) | rfl | (simp only [List.length_drop, List.length_take]; rfl)) ?_
                  with_reducible refine (super_compareEdges.calls kj36 ((rd_T32 l0_1 (ji52)).f0) ((rd_T32 l0_1 (ji52)).f1) ((rd_T32 l0_1 (ji52)).f2) ((rd_T32 l0_1 (ji52)).f3) ((rd_T32 l0_1 a1).f0) ((rd_T32 l0_1 a1).f1) ((rd_T32 l0_1 a1).f2) ((rd_T32 l0_1 a1).f3) t145 _ A55.out).mono ?_
                  rintro e w57 ⟨rfl, hb⟩
                  refine ⟨_, rfl, ?_⟩
                  have n0_ := qam (blk_below (g := gb141) (o := .cells #[.slice A0_0 l0_0.length c0_0, .slice (some ad142) l0_1.length c0_1, .int .i64 a0_2] 25 (0, 0)) (by (with_reducible repeat (first | refine qb3 ?_ _ | refine qb5 ?_ | refine qb4 ?_ _)); exact BK141.out) hb)
                  have n1_ := qam (blk_below (g := gb143) (o := .cells #[.int .i64 ((rd_T32 l0_1 a1).f0), .int .i64 ((rd_T32 l0_1 a1).f1), .int .i64 ((rd_T32 l0_1 a1).f2), .int .i64 ((rd_T32 l0_1 a1).f3)] 32 (0, 0)) (by (with_reducible repeat (first | refine qb3 ?_ _ | refine qb5 ?_ | refine qb4 ?_ _)); exact BK143.out) hb)
                  have n2_ := qam (qw6 (by repeat (first | (with_reducible first | exact HB.out | apply qw1 | apply qw2 | apply qw3 | refine qw4 ?_ GE141.out | refine qw4 ?_ GE143.out) | exact HB.out)) hb)
                  clear BK141
                  clear BK143
                  clear HB
                  have BK141 := n0_
                  have BK143 := n1_
                  have HB := n2_
                  clear n0_ n1_ n2_
                  (try clear hb)
                  (try clear hb2)
                  (try clear hk)
                  (try clear hi)
                  refine hK.out _ _ ⟨(qb1 BK141.out 0).trans rfl, (qb1 BK141.out 1).trans rfl, (qb1 BK141.out 2).trans rfl, (qb1 BK143.out 0).trans rfl, (qb1 BK143.out 1).trans rfl, (qb1 BK143.out 2).trans rfl, (qb1 BK143.out 3).trans rfl, ((HB.out.cell (qbl w _ hw144_0)).trans hw144_0), ((HB.out.cell (qbl w _ hw144_1)).trans hw144_1), ((HB.out.cell (qbl w _ hw144_2)).trans hw144_2), ((HB.out.cell (qbl w _ hw144_3)).trans hw144_3)⟩ (fun hHeld => ?_)
                  clear hK K
                  refine norm_ (a' := ?_) ?_ ?_
                  rotate_left
                  ·show Act.put _ (some 85) _ = _
                   simp only [Act.put, qs1, qs2, qs3, i64_w, i32_w]
                   rfl
                  refine pure_ (i := 11) (N := some 86) (v := ?_) (a' := ?_) #[true, true, true, true, true, true, true, true, true, true, true, true, false, false] rfl rfl (any_of HT_.out (by kernel_rfl)) (fun _ _ _ h => h) (Or.inl ⟨by rfl, ?_⟩) ?_ ?_
                  rotate_left
                  ·intro w'
                   go_simp
                   with_reducible rfl
                  rotate_left
                  ·simp only [Act.put, qs1, qs2, qs3, i64_w, i32_w]
                   rfl
                  refine pure_ (i := 12) (N := some 87) (v := ?_) (a' := ?_) #[true, true, true, true, true, true, true, true, true, true, true, true, true, false] rfl rfl (any_of HT_.out (by kernel_rfl)) (fun _ _ _ h => h) (Or.inl ⟨by rfl, ?_⟩) ?_ ?_
                  rotate_left
                  ·intro w'
                   go_simp
                   with_reducible rfl
                  rotate_left
                  ·simp only [Act.put, qs1, qs2, qs3, i64_w, i32_w]
                   rfl
                  refine pure_ (i := 13) (N := some 74) (v := ?_) (a' := ?_) #[true, true, true, true, true, true, true, true, true, true, true, true, true, true] rfl rfl (any_of HT_.out (by kernel_rfl)) (fun _ _ _ h => h) (Or.inl ⟨by rfl, ?_⟩) ?_ ?_
                  rotate_left
                  ·intro w'
                   go_simp
                   with_reducible rfl
                  rotate_left
                  ·simp only [Act.put, qs1, qs2, qs3, i64_w, i32_w]
                   rfl
                  refine done_ (done_of HT_.out (by kernel_rfl)) ?_
                  try go_wp2
                  go_meet
                  case rel => exact ⟨_, (decide (t145 ≥ 0)), (by first | rfl | (simp; done) | (simp [*]; done)), H', ⟨by have := HJ4.out; have := HJ23.out; have := HJ30.out; have := HJ36.out; first | omega | exact Nat.le_refl _⟩, ⟨by (with_reducible repeat (first | refine qb3 ?_ _ | refine qb5 ?_ | refine qb4 ?_ _)); exact BK141.out⟩, ⟨by (with_reducible repeat (first | refine qb3 ?_ _ | refine qb5 ?_ | refine qb4 ?_ _)); exact BK143.out⟩, ⟨by repeat (first | (with_reducible first | exact HB.out | apply qw1 | apply qw2 | apply qw3 | refine qw4 ?_ GE141.out | refine qw4 ?_ GE143.out) | exact HB.out)⟩⟩
                 ·rw [if_neg c54] at H
                  exact absurd H (by simp)
                ·rw [if_neg c53] at H
                 exact absurd H (by simp)
               ·rw [if_neg c51] at H
                have c51b0 : decide (0 < a1) = false := decide_eq_false c51
                clear c51
                (first | rw [c51b0] | (simp only [i64_w, i32_w]; rw [c51b0]) | skip)
                have H' := qam H
                clear H
                try go_wp2
                have n0_ := qam (qb5 BK141.out)
                have n1_ := qam (qb5 BK143.out)
                have n2_ := qam (qw3 HB.out)
                clear BK141
                clear BK143
                clear HB
                have BK141 := n0_
                have BK143 := n1_
                have HB := n2_
                clear n0_ n1_ n2_
                refine start_ (n := 14) (S := fun w' => True) (ds := []) #[false, false, false, false, false, false, false, false, false, false, false, false, false, false] (by kernel_rfl) rfl rfl trivial (fun hHeld => ?_); refine with_tabW super_checkEdge.tab10 super_checkEdge.bits10 (fun HT_ HW_ => ?_)
                generalize wc.drew = w58 at BK141 BK143 HB hHeld ⊢
                refine pure_ (i := 0) (N := some 75) (v := ?_) (a' := ?_) #[true, false, false, false, false, false, false, false, false, false, false, false, false, false] rfl rfl (any_of HT_.out (by kernel_rfl)) (fun _ _ _ h => h) (Or.inl ⟨by rfl, ?_⟩) ?_ ?_
                rotate_left
                ·intro w'
                 go_simp
                 with_reducible rfl
                rotate_left
                ·simp only [Act.put, qs1, qs2, qs3, i64_w, i32_w]
                 rfl
                refine pure_ (i := 1) (N := some 76) (v := ?_) (a' := ?_) #[true, true, false, false, false, false, false, false, false, false, false, false, false, false] rfl rfl (any_of HT_.out (by kernel_rfl)) (fun _ _ _ h => h) (Or.inl ⟨by rfl, ?_⟩) ?_ ?_
                rotate_left
                ·intro w'
                 go_simp
                 with_reducible rfl
                rotate_left
                ·simp only [Act.put, qs1, qs2, qs3, i64_w, i32_w]
                 rfl
                refine pure_ (i := 2) (N := some 77) (v := ?_) (a' := ?_) #[true, true, true, false, false, false, false, false, false, false, false, false, false, false] rfl rfl (any_of HT_.out (by kernel_rfl)) (fun _ _ _ h => h) (Or.inl ⟨by rfl, ?_⟩) ?_ ?_
                rotate_left
                ·intro w'
                 go_simp
                 with_reducible rfl
                rotate_left
                ·simp only [Act.put, qs1, qs2, qs3, i64_w, i32_w]
                 rfl
                refine pure_ (i := 3) (N := some 78) (v := undef) (a' := ?_) #[true, true, true, true, false, false, false, false, false, false, false, false, false, false] rfl rfl (any_of HT_.out (by kernel_rfl)) (fun _ _ _ h => h) (Or.inr ⟨by rfl, rfl⟩) ?_ ?_
                rotate_left
                ·simp only [Act.put, qs1, qs2, qs3, i64_w, i32_w]
                 rfl
                refine pure_ (i := 4) (N := some 79) (v := undef) (a' := ?_) #[true, true, true, true, true, false, false, false, false, false, false, false, false, false] rfl rfl (any_of HT_.out (by kernel_rfl)) (fun _ _ _ h => h) (Or.inr ⟨by rfl, rfl⟩) ?_ ?_
                rotate_left
                ·simp only [Act.put, qs1, qs2, qs3, i64_w, i32_w]
                 rfl
                refine pure_ (i := 5) (N := some 80) (v := undef) (a' := ?_) #[true, true, true, true, true, true, false, false, false, false, false, false, false, false] rfl rfl (any_of HT_.out (by kernel_rfl)) (fun _ _ _ h => h) (Or.inr ⟨by rfl, rfl⟩) ?_ ?_
                rotate_left
                ·simp only [Act.put, qs1, qs2, qs3, i64_w, i32_w]
                 rfl
                refine pure_ (i := 6) (N := some 81) (v := undef) (a' := ?_) #[true, true, true, true, true, true, true, false, false, false, false, false, false, false] rfl rfl (any_of HT_.out (by kernel_rfl)) (fun _ _ _ h => h) (Or.inr ⟨by rfl, rfl⟩) ?_ ?_
                rotate_left
                ·simp only [Act.put, qs1, qs2, qs3, i64_w, i32_w]
                 rfl
                refine pure_ (i := 7) (N := some 82) (v := undef) (a' := ?_) #[true, true, true, true, true, true, true, true, false, false, false, false, false, false] rfl rfl (any_of HT_.out (by kernel_rfl)) (fun _ _ _ h => h) (Or.inr ⟨by rfl, rfl⟩) ?_ ?_
                rotate_left
                ·simp only [Act.put, qs1, qs2, qs3, i64_w, i32_w]
                 rfl
                refine pure_ (i := 8) (N := some 83) (v := undef) (a' := ?_) #[true, true, true, true, true, true, true, true, true, false, false, false, false, false] rfl rfl (any_of HT_.out (by kernel_rfl)) (fun _ _ _ h => h) (Or.inr ⟨by rfl, rfl⟩) ?_ ?_
                rotate_left
                ·simp only [Act.put, qs1, qs2, qs3, i64_w, i32_w]
                 rfl
                refine pure_ (i := 9) (N := some 84) (v := undef) (a' := ?_) #[true, true, true, true, true, true, true, true, true, true, false, false, false, false] rfl rfl (any_of HT_.out (by kernel_rfl)) (fun _ _ _ h => h) (Or.inr ⟨by rfl, rfl⟩) ?_ ?_
                rotate_left
                ·simp only [Act.put, qs1, qs2, qs3, i64_w, i32_w]
                 rfl
                refine pure_ (i := 10) (N := some 85) (v := undef) (a' := ?_) #[true, true, true, true, true, true, true, true, true, true, true, false, false, false] rfl rfl (any_of HT_.out (by kernel_rfl)) (fun _ _ _ h => h) (Or.inr ⟨by rfl, rfl⟩) ?_ ?_
                rotate_left
                ·simp only [Act.put, qs1, qs2, qs3, i64_w, i32_w]
                 rfl
                refine pure_ (i := 11) (N := some 86) (v := undef) (a' := ?_) #[true, true, true, true, true, true, true, true, true, true, true, true, false, false] rfl rfl (any_of HT_.out (by kernel_rfl)) (fun _ _ _ h => h) (Or.inr ⟨by rfl, rfl⟩) ?_ ?_
                rotate_left
                ·simp only [Act.put, qs1, qs2, qs3, i64_w, i32_w]
                 rfl
                refine pure_ (i := 12) (N := some 87) (v := ?_) (a' := ?_) #[true, true, true, true, true, true, true, true, true, true, true, true, true, false] rfl rfl (any_of HT_.out (by kernel_rfl)) (fun _ _ _ h => h) (Or.inl ⟨by rfl, ?_⟩) ?_ ?_
                rotate_left
                ·intro w'
                 go_simp
                 with_reducible rfl
                rotate_left
                ·simp only [Act.put, qs1, qs2, qs3, i64_w, i32_w]
                 rfl
                refine pure_ (i := 13) (N := some 74) (v := ?_) (a' := ?_) #[true, true, true, true, true, true, true, true, true, true, true, true, true, true] rfl rfl (any_of HT_.out (by kernel_rfl)) (fun _ _ _ h => h) (Or.inl ⟨by rfl, ?_⟩) ?_ ?_
                rotate_left
                ·intro w'
                 go_simp
                 with_reducible rfl
                rotate_left
                ·simp only [Act.put, qs1, qs2, qs3, i64_w, i32_w]
                 rfl
                refine done_ (done_of HT_.out (by kernel_rfl)) ?_
                try go_wp2
                go_meet
                case rel => exact ⟨_, (false), (by first | rfl | (simp; done) | (simp [*]; done)), H', ⟨by have := HJ4.out; have := HJ23.out; have := HJ30.out; have := HJ36.out; first | omega | exact Nat.le_refl _⟩, ⟨by (with_reducible repeat (first | refine qb3 ?_ _ | refine qb5 ?_ | refine qb4 ?_ _)); exact BK141.out⟩, ⟨by (with_reducible repeat (first | refine qb3 ?_ _ | refine qb5 ?_ | refine qb4 ?_ _)); exact BK143.out⟩, ⟨by repeat (first | (with_reducible first | exact HB.out | apply qw1 | apply qw2 | apply qw3 | refine qw4 ?_ GE141.out | refine qw4 ?_ GE143.out) | exact HB.out)⟩⟩
              case rest =>
               clear HC50
               try clear c1
               try clear p1
               try clear q1
               try clear hx1
               try clear c2
               try clear p2
               try clear c3
               try clear c3b0
               try clear c4
               try clear c4b0
               try clear c5
               try clear p6
               try clear c9
               try clear c11
               try clear c12
               try clear c12b0
               try clear c13
               try clear c14
               try clear p14
               try clear q14
               try clear hx14
               try clear c15
               try clear c15b0
               try clear c16
               try clear c18
               try clear c18b0
               try clear c19
               try clear c21
               try clear c23
               try clear c25
               try clear c25b0
               try clear c26
               try clear c28
               try clear c30
               try clear c32
               try clear c32b0
               try clear c32b1
               try clear c33
               try clear c35
               try clear c38
               try clear c39
               try clear c39b0
               try clear c39b1
               try clear c40
               try clear c42
               try clear c44
               try clear c44b0
               try clear c45
               try clear c47
               try clear c49
               try clear c51
               try clear c51b0
               try clear c53
               try clear c53b0
               try clear c54
               try clear c54b0
               try clear hcz10_0
               try clear hcz10_1
               try clear hcz10_2
               try clear hcz10_3
               try clear hcz11_0
               try clear hcz11_1
               try clear hcz11_2
               try clear hcz14_0
               try clear hcz14_1
               try clear hcz14_2
               try clear hcz14_3
               try clear hcz17_0
               try clear hcz17_1
               try clear hcz17_2
               try clear hcz17_3
               try clear hcz20_0
               try clear hcz20_1
               try clear hcz20_2
               try clear hcz20_3
               try clear hcz22_0
               try clear hcz22_1
               try clear hcz22_2
               try clear hcz22_3
               try clear hcz27_0
               try clear hcz27_1
               try clear hcz27_2
               try clear hcz27_3
               try clear hcz29_0
               try clear hcz29_1
               try clear hcz29_2
               try clear hcz29_3
               try clear hcz34_0
               try clear hcz34_1
               try clear hcz34_2
               try clear hcz34_3
               try clear hcz36_0
               try clear hcz36_1
               try clear hcz36_2
               try clear hcz36_3
               try clear hcz41_0
               try clear hcz41_1
               try clear hcz41_2
               try clear hcz41_3
               try clear hcz43_0
               try clear hcz43_1
               try clear hcz43_2
               try clear hcz43_3
               try clear hcz46_0
               try clear hcz46_1
               try clear hcz46_2
               try clear hcz46_3
               try clear hcz48_0
               try clear hcz48_1
               try clear hcz48_2
               try clear hcz48_3
               try clear hcz7_0
               try clear hcz7_1
               try clear hcz7_2
               try clear hfz10_0
               try clear hfz10_1
               try clear hfz10_2
               try clear hfz10_3
               try clear hfz11_0
               try clear hfz11_1
               try clear hfz11_2
               try clear hfz14_0
               try clear hfz14_1
               try clear hfz14_2
               try clear hfz14_3
               try clear hfz17_0
               try clear hfz17_1
               try clear hfz17_2
               try clear hfz17_3
               try clear hfz20_0
               try clear hfz20_1
               try clear hfz20_2
               try clear hfz20_3
               try clear hfz22_0
               try clear hfz22_1
               try clear hfz22_2
               try clear hfz22_3
               try clear hfz27_0
               try clear hfz27_1
               try clear hfz27_2
               try clear hfz27_3
               try clear hfz29_0
               try clear hfz29_1
               try clear hfz29_2
               try clear hfz29_3
               try clear hfz34_0
               try clear hfz34_1
               try clear hfz34_2
               try clear hfz34_3
               try clear hfz36_0
               try clear hfz36_1
               try clear hfz36_2
               try clear hfz36_3
               try clear hfz41_0
               try clear hfz41_1
               try clear hfz41_2
               try clear hfz41_3
               try clear hfz43_0
               try clear hfz43_1
               try clear hfz43_2
               try clear hfz43_3
               try clear hfz46_0
               try clear hfz46_1
               try clear hfz46_2
               try clear hfz46_3
               try clear hfz48_0
               try clear hfz48_1
               try clear hfz48_2
               try clear hfz48_3
               try clear hfz7_0
               try clear hfz7_1
               try clear hfz7_2
               try clear hx142_0
               try clear hx142_1
               try clear hx142_2
               try clear hx142_3
               try clear hx144_0
               try clear hx144_1
               try clear hx144_2
               try clear hx144_3
               try clear p1
               try clear p14
               try clear p142
               try clear p144
               try clear p2
               try clear q1
               try clear q14
               try clear q142
               try clear q144
               obtain ⟨kq, x74_49, rfl, HA, HJ49, BK141, BK143, HB⟩ := hcut
               cases kq with
               | zero => exact absurd HA.out (by simp [super_checkEdge.j4])
               | succ kj49 =>
                have H := HA.out
                clear HA
                simp only [super_checkEdge.j4] at H
                by_cases c59 : x74_49 = true
                ·subst c59
                 have H1 : (some 13) = some r := by rw [if_pos rfl] at H; exact H
                 clear H
                 have H := H1
                 clear H1
                 obtain rfl := Option.some.inj H
                 go_wp2
                 go_ret
                 exact ⟨by first | rfl | (simp [errW_none, errW_some] <;> rfl) | (simp [*, errW_none, errW_some] <;> rfl), by repeat (first | (with_reducible first | exact HB.out | apply qw1 | apply qw2 | apply qw3 | refine qw4 ?_ GE141.out | refine qw4 ?_ GE143.out) | exact HB.out)⟩
                ·replace c59 := Bool.eq_false_iff.mpr c59
                 subst c59
                 have H1 : ((super_fits.f kj49 l0_0 l0_1 a0_2 ((rd_T32 l0_1 a1).f0) ((rd_T32 l0_1 a1).f1) ((rd_T32 l0_1 a1).f2) ((rd_T32 l0_1 a1).f3)).bind fun t146 => (if t146 = true then (some 0) else (some 20))) = some r := by rw [if_neg (show ¬ (false = true) by decide)] at H; exact H
                 clear H
                 have H := H1
                 clear H1
                 replace H := Option.bind_eq_some_iff.mp H
                 obtain ⟨t146, A600, H⟩ := H
                 replace H : (if t146 = true then (some 0) else (some 20)) = some r := H
                 have A60 := qam A600
                 clear A600
                 by_cases c61 : t146 = true
                 ·subst c61
                  have H1 : (some 0) = some r := by rw [if_pos rfl] at H; exact H
                  clear H
                  have H := H1
                  clear H1
                  obtain rfl := Option.some.inj H
                  have hnb62 := NB141_143.out
                  have hnc62 := NB143_141.out
                  have hcz63_0 : wc.cell? ⟨gb141, 0, none⟩ = some (.slice A0_0 l0_0.length c0_0) := (qb1 BK141.out 0).trans rfl
                  have hcz63_1 : wc.cell? ⟨gb141, 1, none⟩ = some (.slice (some ad142) l0_1.length c0_1) := (qb1 BK141.out 1).trans rfl
                  have hcz63_2 : wc.cell? ⟨gb141, 2, none⟩ = some (.int .i64 a0_2) := (qb1 BK141.out 2).trans rfl
                  have hfz63_0 := qb2 BK141.out 0
                  have hfz63_1 := qb2 BK141.out 1
                  have hfz63_2 := qb2 BK141.out 2
                  have hcz64_0 : wc.cell? ⟨gb143, 0, none⟩ = some (.int .i64 ((rd_T32 l0_1 a1).f0)) := (qb1 BK143.out 0).trans rfl
                  have hcz64_1 : wc.cell? ⟨gb143, 1, none⟩ = some (.int .i64 ((rd_T32 l0_1 a1).f1)) := (qb1 BK143.out 1).trans rfl
                  have hcz64_2 : wc.cell? ⟨gb143, 2, none⟩ = some (.int .i64 ((rd_T32 l0_1 a1).f2)) := (qb1 BK143.out 2).trans rfl
                  have hcz64_3 : wc.cell? ⟨gb143, 3, none⟩ = some (.int .i64 ((rd_T32 l0_1 a1).f3)) := (qb1 BK143.out 3).trans rfl
                  have hfz64_0 := qb2 BK143.out 0
                  have hfz64_1 := qb2 BK143.out 1
                  have hfz64_2 := qb2 BK143.out 2
                  have hfz64_3 := qb2 BK143.out 3
                  go_wp2_with (first | ((with_reducible refine gate_callee (f := 150) rfl ?_); refine goesL_ (some 91) rfl rfl Try.func150 (by kernel_rfl) rfl #[.agg #[.slice A0_0 l0_0.length c0_0, .slice (some ad142) l0_1.length c0_1, .int .i64 a0_2], .agg #[.int .i64 ((rd_T32 l0_1 a1).f0), .int .i64 ((rd_T32 l0_1 a1).f1), .int .i64 ((rd_T32 l0_1 a1).f2), .int .i64 ((rd_T32 l0_1 a1).f3)]] rfl (by (try simp only [List.map_toArray, List.map_cons, List.map_nil]); first | done | rfl | (simp only [List.length_drop, List.length_take]; rfl)) ?_; (with_reducible refine (super_fits.calls kj49 _ _ l0_0 _ _ l0_1 a0_2 ((rd_T32 l0_1 a1).f0) ((rd_T32 l0_1 a1).f1) ((rd_T32 l0_1 a1).f2) ((rd_T32 l0_1 a1).f3) true _ ?side1 ?side2 ?side3 ?side4 A60.out).mono ?_); (case side1 => repeat (first | exact (qk4 HR0_0.out HB.out) | (with_reducible refine Kd.C_alloc ?_ _) | (with_reducible refine Kd.C_drewN ?_ _) | (with_reducible refine Kd.C_drew ?_))); (case side2 => exact HC0_0.out); (case side3 => repeat (first | exact (qk4 HR0_1.out HB.out) | (with_reducible refine Kd.C_alloc ?_ _) | (with_reducible refine Kd.C_drewN ?_ _) | (with_reducible refine Kd.C_drew ?_))); (case side4 => exact HC0_1.out); rintro e w65 ⟨rfl, hb⟩; refine ⟨_, rfl, ?_⟩; have n0_ := qam (blk_below (g := gb141) (o := .cells #[.slice A0_0 l0_0.length c0_0, .slice (some ad142) l0_1.length c0_1, .int .i64 a0_2] 25 (0, 0)) (by (with_reducible repeat (first | refine qb3 ?_ _ | refine qb5 ?_ | refine qb4 ?_ _)); exact BK141.out) hb); have n1_ := qam (blk_below (g := gb143) (o := .cells #[.int .i64 ((rd_T32 l0_1 a1).f0), .int .i64 ((rd_T32 l0_1 a1).f1), .int .i64 ((rd_T32 l0_1 a1).f2), .int .i64 ((rd_T32 l0_1 a1).f3)] 32 (0, 0)) (by (with_reducible repeat (first | refine qb3 ?_ _ | refine qb5 ?_ | refine qb4 ?_ _)); exact BK143.out) hb); have n2_ := qam (qw6 (by repeat (first | (with_reducible first | exact HB.out | apply qw1 | apply qw2 | apply qw3 | refine qw4 ?_ GE141.out | refine qw4 ?_ GE143.out) | exact HB.out)) hb); clear BK141; clear BK143; clear HB; have BK141 := n0_; have BK143 := n1_; have HB := n2_; clear n0_ n1_ n2_; (try clear hb); (try clear hb2); (try clear hk); (try clear hi)))
                  go_ret
                  exact ⟨by first | rfl | (simp [errW_none, errW_some] <;> rfl) | (simp [*, errW_none, errW_some] <;> rfl), by repeat (first | (with_reducible first | exact HB.out | apply qw1 | apply qw2 | apply qw3 | refine qw4 ?_ GE141.out | refine qw4 ?_ GE143.out) | exact HB.out)⟩
                 ·replace c61 := Bool.eq_false_iff.mpr c61
                  subst c61
                  have H1 : (some 20) = some r := by rw [if_neg (show ¬ (false = true) by decide)] at H; exact H
                  clear H
                  have H := H1
                  clear H1
                  obtain rfl := Option.some.inj H
                  have hnb66 := NB141_143.out
                  have hnc66 := NB143_141.out
                  have hcz67_0 : wc.cell? ⟨gb141, 0, none⟩ = some (.slice A0_0 l0_0.length c0_0) := (qb1 BK141.out 0).trans rfl
                  have hcz67_1 : wc.cell? ⟨gb141, 1, none⟩ = some (.slice (some ad142) l0_1.length c0_1) := (qb1 BK141.out 1).trans rfl
                  have hcz67_2 : wc.cell? ⟨gb141, 2, none⟩ = some (.int .i64 a0_2) := (qb1 BK141.out 2).trans rfl
                  have hfz67_0 := qb2 BK141.out 0
                  have hfz67_1 := qb2 BK141.out 1
                  have hfz67_2 := qb2 BK141.out 2
                  have hcz68_0 : wc.cell? ⟨gb143, 0, none⟩ = some (.int .i64 ((rd_T32 l0_1 a1).f0)) := (qb1 BK143.out 0).trans rfl
                  have hcz68_1 : wc.cell? ⟨gb143, 1, none⟩ = some (.int .i64 ((rd_T32 l0_1 a1).f1)) := (qb1 BK143.out 1).trans rfl
                  have hcz68_2 : wc.cell? ⟨gb143, 2, none⟩ = some (.int .i64 ((rd_T32 l0_1 a1).f2)) := (qb1 BK143.out 2).trans rfl
                  have hcz68_3 : wc.cell? ⟨gb143, 3, none⟩ = some (.int .i64 ((rd_T32 l0_1 a1).f3)) := (qb1 BK143.out 3).trans rfl
                  have hfz68_0 := qb2 BK143.out 0
                  have hfz68_1 := qb2 BK143.out 1
                  have hfz68_2 := qb2 BK143.out 2
                  have hfz68_3 := qb2 BK143.out 3
                  go_wp2_with (first | ((with_reducible refine gate_callee (f := 150) rfl ?_); refine goesL_ (some 91) rfl rfl Try.func150 (by kernel_rfl) rfl #[.agg #[.slice A0_0 l0_0.length c0_0, .slice (some ad142) l0_1.length c0_1, .int .i64 a0_2], .agg #[.int .i64 ((rd_T32 l0_1 a1).f0), .int .i64 ((rd_T32 l0_1 a1).f1), .int .i64 ((rd_T32 l0_1 a1).f2), .int .i64 ((rd_T32 l0_1 a1).f3)]] rfl (by (try simp only [List.map_toArray, List.map_cons, List.map_nil]); first | done | rfl | (simp only [List.length_drop, List.length_take]; rfl)) ?_; (with_reducible refine (super_fits.calls kj49 _ _ l0_0 _ _ l0_1 a0_2 ((rd_T32 l0_1 a1).f0) ((rd_T32 l0_1 a1).f1) ((rd_T32 l0_1 a1).f2) ((rd_T32 l0_1 a1).f3) false _ ?side1 ?side2 ?side3 ?side4 A60.out).mono ?_); (case side1 => repeat (first | exact (qk4 HR0_0.out HB.out) | (with_reducible refine Kd.C_alloc ?_ _) | (with_reducible refine Kd.C_drewN ?_ _) | (with_reducible refine Kd.C_drew ?_))); (case side2 => exact HC0_0.out); (case side3 => repeat (first | exact (qk4 HR0_1.out HB.out) | (with_reducible refine Kd.C_alloc ?_ _) | (with_reducible refine Kd.C_drewN ?_ _) | (with_reducible refine Kd.C_drew ?_))); (case side4 => exact HC0_1.out); rintro e w69 ⟨rfl, hb⟩; refine ⟨_, rfl, ?_⟩; have n0_ := qam (blk_below (g := gb141) (o := .cells #[.slice A0_0 l0_0.length c0_0, .slice (some ad142) l0_1.length c0_1, .int .i64 a0_2] 25 (0, 0)) (by (with_reducible repeat (first | refine qb3 ?_ _ | refine qb5 ?_ | refine qb4 ?_ _)); exact BK141.out) hb); have n1_ := qam (blk_below (g := gb143) (o := .cells #[.int .i64 ((rd_T32 l0_1 a1).f0), .int .i64 ((rd_T32 l0_1 a1).f1), .int .i64 ((rd_T32 l0_1 a1).f2), .int .i64 ((rd_T32 l0_1 a1).f3)] 32 (0, 0)) (by (with_reducible repeat (first | refine qb3 ?_ _ | refine qb5 ?_ | refine qb4 ?_ _)); exact BK143.out) hb); have n2_ := qam (qw6 (by repeat (first | (with_reducible first | exact HB.out | apply qw1 | apply qw2 | apply qw3 | refine qw4 ?_ GE141.out | refine qw4 ?_ GE143.out) | exact HB.out)) hb); clear BK141; clear BK143; clear HB; have BK141 := n0_; have BK143 := n1_; have HB := n2_; clear n0_ n1_ n2_; (try clear hb); (try clear hb2); (try clear hk); (try clear hi)))
                  go_ret
                  exact ⟨by first | rfl | (simp [errW_none, errW_some] <;> rfl) | (simp [*, errW_none, errW_some] <;> rfl), by repeat (first | (with_reducible first | exact HB.out | apply qw1 | apply qw2 | apply qw3 | refine qw4 ?_ GE141.out | refine qw4 ?_ GE143.out) | exact HB.out)⟩
  ·rw [if_neg c4] at H
   exact absurd H (by simp)
 ·rw [if_neg c3] at H
  exact absurd H (by simp)

end Go.Proofs.Ytflpelbhalndcaa.QV
