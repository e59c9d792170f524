-- By a program of this session, out of the translation's own print.
import Derived.Test.YtflpelbhalndcaaQVg
import Derived.Test.YtflpelbhalndcaaQVld
import Derived.Test.YtflpelbhalndcaaQVx0
import Derived.Test.YtflpelbhalndcaaQVx1
import Derived.Test.YtflpelbhalndcaaQVx10
namespace Go.Proofs.Ytflpelbhalndcaa.QV
open Go.RowKit Go.Proofs.YtflpelbhalndcaaW.PrintWords Go.Proofs.YtflpelbhalndcaaW.PrintLast Go.Proofs.YtflpelbhalndcaaW.PrintMore
attribute [local go_sem] max2_int min2_int max_two min_two max_three min_three max_four min_four   -- for this text's walks alone
set_option linter.unusedVariables false
set_option linter.unusedSimpArgs false

def dataflowlaw28_VpathMatch.T8 : Bool × List (List Nat × List Nat) := (true, [([], []), ([], []), ([0, 1], [0, 1]), ([2], [2]), ([3], [3]), ([4], [4]), ([5], [5]), ([5], [5]), ([6, 7, 5], [5, 6, 7]), ([8, 5], [5, 8]), ([5], [5]), ([10, 5], [5, 10]), ([11, 5], [5, 11]), ([9, 12, 5], [5, 9, 12]), ([5, 13], [5, 13]), ([14, 5], [14]), ([15], [15]), ([16, 15], [15, 16]), ([15], [15]), ([15], [15]), ([18, 19, 15], [15, 18, 19]), ([20, 15], [15, 20]), ([17, 21, 15], [15, 17, 21]), ([22, 15], [15, 22]), ([23, 15], [15, 23]), ([15], [15]), ([24, 25, 15], [15, 24, 25]), ([15, 26], [15, 26])])
def dataflowlaw28_VpathMatch.B8 : List Nat := [0, 0, 3, 7, 15, 31, 63, 63, 255, 511, 63, 1087, 3135, 8191, 16383, 32767, 65535, 131071, 65535, 65535, 851967, 1900543, 4194303, 8388607, 16777215, 65535, 67108863, 134217727]
theorem dataflowlaw28_VpathMatch.tab8 : rtab .any (opsOf Try.f3 8) = dataflowlaw28_VpathMatch.T8 := by kernel_rfl
theorem dataflowlaw28_VpathMatch.bits8 : waitsOk dataflowlaw28_VpathMatch.T8.2 dataflowlaw28_VpathMatch.B8 = true := by kernel_rfl
def dataflowlaw28_VpathMatch.T10 : Bool × List (List Nat × List Nat) := (true, [([], []), ([0], [0]), ([], []), ([], []), ([2, 3], [2, 3]), ([4], [4]), ([1, 5], [1, 5]), ([6], [6]), ([], []), ([8, 7, 0, 1, 2, 3, 4, 5, 6, 7, 8], [7, 8])])
def dataflowlaw28_VpathMatch.B10 : List Nat := [0, 1, 0, 0, 12, 28, 63, 127, 0, 511]
theorem dataflowlaw28_VpathMatch.tab10 : rtab .any (opsOf Try.f3 10) = dataflowlaw28_VpathMatch.T10 := by kernel_rfl
theorem dataflowlaw28_VpathMatch.bits10 : waitsOk dataflowlaw28_VpathMatch.T10.2 dataflowlaw28_VpathMatch.B10 = true := by kernel_rfl
def dataflowlaw28_VpathMatch.T17 : Bool × List (List Nat × List Nat) := (true, [([], []), ([0], [0]), ([1], [1]), ([2], [2]), ([3], [3]), ([3], [3]), ([5, 3], [3, 5]), ([6, 3], [3, 6]), ([4, 7, 3], [3, 4, 7]), ([8, 3], [3, 8]), ([3], [3]), ([10, 3], [3, 10]), ([9, 11, 3], [3, 9, 11]), ([3, 12], [3, 12])])
def dataflowlaw28_VpathMatch.B17 : List Nat := [0, 1, 3, 7, 15, 15, 47, 111, 255, 511, 15, 1039, 4095, 8191]
theorem dataflowlaw28_VpathMatch.tab17 : rtab .any (opsOf Try.f3 17) = dataflowlaw28_VpathMatch.T17 := by kernel_rfl
theorem dataflowlaw28_VpathMatch.bits17 : waitsOk dataflowlaw28_VpathMatch.T17.2 dataflowlaw28_VpathMatch.B17 = true := by kernel_rfl
def dataflowlaw28_VpathMatch.T20 : Bool × List (List Nat × List Nat) := (true, [([], []), ([], []), ([], []), ([], []), ([3], [3]), ([2, 4], [2, 4]), ([0, 1, 5], [0, 1, 5]), ([6], [6]), ([7, 6], [7]), ([8], [8]), ([8], [8]), ([8], [8]), ([8], [8]), ([12, 8], [8, 12]), ([11, 13, 8], [8, 11, 13]), ([9, 10, 14, 8, 8], [8, 9, 10, 14]), ([8], [8]), ([16, 8], [8, 16]), ([17, 8], [8, 17]), ([15, 18, 8], [8, 15, 18]), ([8, 19], [8, 19])])
def dataflowlaw28_VpathMatch.B20 : List Nat := [0, 0, 0, 0, 8, 28, 63, 127, 255, 511, 511, 511, 511, 4607, 14847, 32767, 511, 66047, 197119, 524287, 1048575]
theorem dataflowlaw28_VpathMatch.tab20 : rtab .any (opsOf Try.f3 20) = dataflowlaw28_VpathMatch.T20 := by kernel_rfl
theorem dataflowlaw28_VpathMatch.bits20 : waitsOk dataflowlaw28_VpathMatch.T20.2 dataflowlaw28_VpathMatch.B20 = true := by kernel_rfl
def dataflowlaw28_VpathMatch.T22 : Bool × List (List Nat × List Nat) := (true, [([], []), ([0], [0]), ([1], [1]), ([2], [2]), ([3], [3]), ([4, 3], [3, 4]), ([3], [3]), ([5, 6, 3], [3, 5, 6]), ([7, 3], [3, 7]), ([8, 3], [3, 8]), ([3], [3]), ([10, 3], [3, 10]), ([3], [3]), ([11, 12, 3], [3, 11, 12]), ([13, 3], [3, 13]), ([14, 3], [3, 14]), ([9, 15, 3], [3, 9, 15]), ([3, 16], [3, 16])])
def dataflowlaw28_VpathMatch.B22 : List Nat := [0, 1, 3, 7, 15, 31, 15, 127, 255, 511, 15, 1039, 15, 7183, 15375, 31759, 65535, 131071]
theorem dataflowlaw28_VpathMatch.tab22 : rtab .any (opsOf Try.f3 22) = dataflowlaw28_VpathMatch.T22 := by kernel_rfl
theorem dataflowlaw28_VpathMatch.bits22 : waitsOk dataflowlaw28_VpathMatch.T22.2 dataflowlaw28_VpathMatch.B22 = true := by kernel_rfl

set_option maxHeartbeats 8000000 in
set_option maxRecDepth 100000 in
theorem dataflowlaw28_VpathMatch.calls_true (k : Nat) (A0_0 : Option Addr) (c0_0 : Nat) (l0_0 : List (S35)) (A0_1 : Option Addr) (c0_1 : Nat) (l0_1 : List (S32)) (a0_2 : Int) (a1 : Int) (A2 : Option Addr) (c2 : Nat) (l2 : List Int) (w : World) (hr0_0 : Kd.C k35 w A0_0 l0_0.length l0_0) (hc0_0 : l0_0.length ≤ c0_0) (hr0_1 : Kd.C k32 w A0_1 l0_1.length l0_1) (hc0_1 : l0_1.length ≤ c0_1) (hr2 : Kd.C (Kd.int .i64) w A2 l2.length l2) (hc2 : l2.length ≤ c2) (h : dataflowlaw28_VpathMatch.f k l0_0 l0_1 a0_2 a1 l2 = some true) :
  Calls Try.prog 3 #[.agg #[.slice A0_0 l0_0.length c0_0, .slice A0_1 l0_1.length c0_1, .int .i64 a0_2], .int .i64 a1, .slice A2 l2.length c2] w fun e w' => e = .returned (.bool true) ∧ Below w.heap.size w w' := by
 have hu25 := Try.underlying25
 have hu32 := Try.underlying32
 have HR0_0 := qam hr0_0
 have HC0_0 := qam hc0_0
 clear hr0_0 hc0_0
 have HR0_1 := qam hr0_1
 have HC0_1 := qam hc0_1
 clear hr0_1 hc0_1
 have HR2 := qam hr2
 have HC2 := qam hc2
 clear hr2 hc2
 have HB := qam (Below.refl w.heap.size w)
 have H : ((dataflowlaw28_small.f l0_0 l0_1 a0_2).bind fun t262 => (if t262 = true then (if (l2.length : Int) > 60 then (dataflowlaw28_VpathMatch.j0 k a1 l2 true l0_0 l0_1 a0_2) else ((vpath_Check.f k l0_0 l0_1 a0_2 a1 l2).bind fun t263 => (dataflowlaw28_VpathMatch.j0 k a1 l2 (t263 != 0) l0_0 l0_1 a0_2))) else (dataflowlaw28_VpathMatch.j0 k a1 l2 true l0_0 l0_1 a0_2))) = some true := h
 clear h
 have HC4 := qam H
 clear H
 go_enter Try.func3, Try.ntmps3
 go_upto_region 1 with (first | ((with_reducible refine gate_dst (N := 3) rfl ?_); (try (refine gate_guard (by rfl) ?_; dsimp only)); refine box_event ?hg (N := 3) ?hd (cs := #[.slice A0_0 l0_0.length c0_0, .slice A0_1 l0_1.length c0_1, .int .i64 a0_2]) (t := 25) ?hr ?_; (case hd => rfl); (case hg => rfl); (case hr => first | (go_simp; done) | (go_simp; rfl)); intro gb261 hg w5 hbox hb; have n0_ := qam (qw6 (by repeat (first | (with_reducible first | exact HB.out | apply qw1 | apply qw2 | apply qw3) | exact HB.out)) hb); have n1_ := qam (hbox); have n2_ := qam ((by rw [hg]; exact (qw5 (by repeat (first | (with_reducible first | exact HB.out | apply qw1 | apply qw2 | apply qw3) | exact HB.out))) : w.heap.size ≤ gb261)); have n3_ := qam ((by rw [hg]; exact (qw5 (by repeat (first | (with_reducible first | exact HB.out | apply qw1 | apply qw2 | apply qw3) | exact HB.out))) : w.heap.size ≤ gb261)); clear HB; have HB := n0_; have BK261 := n1_; have GW261 := n2_; have GE261 := n3_; clear n0_ n1_ n2_ n3_; clear hb hbox hg))
 (try simp only [Act.put, qs1, qs2, qs3])
 go_cut [29] (fun v29 wc => ∃ (kq : Nat) (x29_3 : Bool), v29 = .bool x29_3 ∧ Aside0 (dataflowlaw28_VpathMatch.j0 kq a1 l2 x29_3 l0_0 l0_1 a0_2 = some true) ∧ Aside0 (kq ≤ k) ∧ Aside0 (wc.heap[gb261]? = some (.cells #[(.slice A0_0 l0_0.length c0_0), (.slice A0_1 l0_1.length c0_1), .int .i64 a0_2] 25 (0, 0))) ∧ Aside0 (Below w.heap.size w wc))
 case first => as_aux_lemma =>
  have H := HC4.out
  clear HC4
  replace H := Option.bind_eq_some_iff.mp H
  obtain ⟨t262, A60, H⟩ := H
  replace H : (if t262 = true then (if (l2.length : Int) > 60 then (dataflowlaw28_VpathMatch.j0 k a1 l2 true l0_0 l0_1 a0_2) else ((vpath_Check.f k l0_0 l0_1 a0_2 a1 l2).bind fun t263 => (dataflowlaw28_VpathMatch.j0 k a1 l2 (t263 != 0) l0_0 l0_1 a0_2))) else (dataflowlaw28_VpathMatch.j0 k a1 l2 true l0_0 l0_1 a0_2)) = some true := H
  have A6 := qam A60
  clear A60
  by_cases c7 : t262 = true
  ·subst c7
   have H1 : (if (l2.length : Int) > 60 then (dataflowlaw28_VpathMatch.j0 k a1 l2 true l0_0 l0_1 a0_2) else ((vpath_Check.f k l0_0 l0_1 a0_2 a1 l2).bind fun t263 => (dataflowlaw28_VpathMatch.j0 k a1 l2 (t263 != 0) l0_0 l0_1 a0_2))) = some true := by rw [if_pos rfl] at H; exact H
   clear H
   have H := H1
   clear H1
   by_cases c8 : (l2.length : Int) > 60
   ·rw [if_pos c8] at H
    have c8b0 : decide (60 < (l2.length : Int)) = true := decide_eq_true c8
    have c8b1 : decide (60 < l2.length) = true := decide_eq_true (by omega)
    clear c8
    (first | rw [c8b0] | (simp only [i64_w, i32_w]; rw [c8b0]) | skip)
    have H' := qam H
    clear H
    have hcz9_0 : w5.cell? ⟨gb261, 0, none⟩ = some (.slice A0_0 l0_0.length c0_0) := (qb1 BK261.out 0).trans rfl
    have hcz9_1 : w5.cell? ⟨gb261, 1, none⟩ = some (.slice A0_1 l0_1.length c0_1) := (qb1 BK261.out 1).trans rfl
    have hcz9_2 : w5.cell? ⟨gb261, 2, none⟩ = some (.int .i64 a0_2) := (qb1 BK261.out 2).trans rfl
    have hfz9_0 := qb2 BK261.out 0
    have hfz9_1 := qb2 BK261.out 1
    have hfz9_2 := qb2 BK261.out 2
    go_wp2_with (first | ((with_reducible refine gate_callee (f := 14) rfl ?_); refine goesL_ (some 16) rfl rfl Try.func14 (by kernel_rfl) rfl #[.agg #[.slice A0_0 l0_0.length c0_0, .slice A0_1 l0_1.length c0_1, .int .i64 a0_2]] rfl (by (try simp only [List.map_toArray, List.map_cons, List.map_nil]); first | done | rfl | (simp only [List.length_drop, List.length_take]; rfl)) ?_; (with_reducible refine (dataflowlaw28_small.calls _ _ l0_0 _ _ l0_1 a0_2 true _ ?side1 ?side2 ?side3 ?side4 A6.out).mono ?_); (case side1 => repeat (first | exact (qk4 HR0_0.out HB.out) | (with_reducible refine Kd.C_alloc ?_ _) | (with_reducible refine Kd.C_drewN ?_ _) | (with_reducible refine Kd.C_drew ?_))); (case side2 => exact HC0_0.out); (case side3 => repeat (first | exact (qk4 HR0_1.out HB.out) | (with_reducible refine Kd.C_alloc ?_ _) | (with_reducible refine Kd.C_drewN ?_ _) | (with_reducible refine Kd.C_drew ?_))); (case side4 => exact HC0_1.out); rintro e w10 ⟨rfl, hb⟩; refine ⟨_, rfl, ?_⟩; have n0_ := qam (blk_below (g := gb261) (o := .cells #[.slice A0_0 l0_0.length c0_0, .slice A0_1 l0_1.length c0_1, .int .i64 a0_2] 25 (0, 0)) (by (with_reducible repeat (first | refine qb3 ?_ _ | refine qb5 ?_ | refine qb4 ?_ _)); exact BK261.out) hb); have n1_ := qam (qw6 (by repeat (first | (with_reducible first | exact HB.out | apply qw1 | apply qw2 | apply qw3 | refine qw4 ?_ GE261.out) | exact HB.out)) hb); clear BK261; clear HB; have BK261 := n0_; have HB := n1_; clear n0_ n1_; (try clear hb); (try clear hb2); (try clear hk); (try clear hi)))
    go_meet
    case rel => exact ⟨_, (true), (by first | rfl | (simp; done) | (simp [*]; done)), H', ⟨by first | omega | exact Nat.le_refl _⟩, ⟨by (with_reducible repeat (first | refine qb3 ?_ _ | refine qb5 ?_ | refine qb4 ?_ _)); exact BK261.out⟩, ⟨by repeat (first | (with_reducible first | exact HB.out | apply qw1 | apply qw2 | apply qw3 | refine qw4 ?_ GE261.out) | exact HB.out)⟩⟩
   ·rw [if_neg c8] at H
    have c8b0 : decide (60 < (l2.length : Int)) = false := decide_eq_false c8
    have c8b1 : decide (60 < l2.length) = false := decide_eq_false (by omega)
    clear c8
    (first | rw [c8b0] | (simp only [i64_w, i32_w]; rw [c8b0]) | skip)
    replace H := Option.bind_eq_some_iff.mp H
    obtain ⟨t263, A110, H⟩ := H
    replace H : (dataflowlaw28_VpathMatch.j0 k a1 l2 (t263 != 0) l0_0 l0_1 a0_2) = some true := H
    have A11 := qam A110
    clear A110
    have H' := qam H
    clear H
    have hcz12_0 : w5.cell? ⟨gb261, 0, none⟩ = some (.slice A0_0 l0_0.length c0_0) := (qb1 BK261.out 0).trans rfl
    have hcz12_1 : w5.cell? ⟨gb261, 1, none⟩ = some (.slice A0_1 l0_1.length c0_1) := (qb1 BK261.out 1).trans rfl
    have hcz12_2 : w5.cell? ⟨gb261, 2, none⟩ = some (.int .i64 a0_2) := (qb1 BK261.out 2).trans rfl
    have hfz12_0 := qb2 BK261.out 0
    have hfz12_1 := qb2 BK261.out 1
    have hfz12_2 := qb2 BK261.out 2
    go_wp2_with (first | ((with_reducible refine gate_callee (f := 14) rfl ?_); refine goesL_ (some 16) rfl rfl Try.func14 (by kernel_rfl) rfl #[.agg #[.slice A0_0 l0_0.length c0_0, .slice A0_1 l0_1.length c0_1, .int .i64 a0_2]] rfl (by (try simp only [List.map_toArray, List.map_cons, List.map_nil]); first | done | rfl | (simp only [List.length_drop, List.length_take]; rfl)) ?_; (with_reducible refine (dataflowlaw28_small.calls _ _ l0_0 _ _ l0_1 a0_2 true _ ?side1 ?side2 ?side3 ?side4 A6.out).mono ?_); (case side1 => repeat (first | exact (qk4 HR0_0.out HB.out) | (with_reducible refine Kd.C_alloc ?_ _) | (with_reducible refine Kd.C_drewN ?_ _) | (with_reducible refine Kd.C_drew ?_))); (case side2 => exact HC0_0.out); (case side3 => repeat (first | exact (qk4 HR0_1.out HB.out) | (with_reducible refine Kd.C_alloc ?_ _) | (with_reducible refine Kd.C_drewN ?_ _) | (with_reducible refine Kd.C_drew ?_))); (case side4 => exact HC0_1.out); rintro e w13 ⟨rfl, hb⟩; refine ⟨_, rfl, ?_⟩; have n0_ := qam (blk_below (g := gb261) (o := .cells #[.slice A0_0 l0_0.length c0_0, .slice A0_1 l0_1.length c0_1, .int .i64 a0_2] 25 (0, 0)) (by (with_reducible repeat (first | refine qb3 ?_ _ | refine qb5 ?_ | refine qb4 ?_ _)); exact BK261.out) hb); have n1_ := qam (qw6 (by repeat (first | (with_reducible first | exact HB.out | apply qw1 | apply qw2 | apply qw3 | refine qw4 ?_ GE261.out) | exact HB.out)) hb); clear BK261; clear HB; have BK261 := n0_; have HB := n1_; clear n0_ n1_; (try clear hb); (try clear hb2); (try clear hk); (try clear hi); have hcz14_0 : w13.cell? ⟨gb261, 0, none⟩ = some (.slice A0_0 l0_0.length c0_0) := (qb1 BK261.out 0).trans rfl; have hcz14_1 : w13.cell? ⟨gb261, 1, none⟩ = some (.slice A0_1 l0_1.length c0_1) := (qb1 BK261.out 1).trans rfl; have hcz14_2 : w13.cell? ⟨gb261, 2, none⟩ = some (.int .i64 a0_2) := (qb1 BK261.out 2).trans rfl; have hfz14_0 := qb2 BK261.out 0; have hfz14_1 := qb2 BK261.out 1; have hfz14_2 := qb2 BK261.out 2) | (go_at_call 15; (with_reducible refine (vpath_Check.calls k _ _ l0_0 _ _ l0_1 a0_2 a1 _ _ l2 t263 _ ?side1 ?side2 ?side3 ?side4 ?side5 ?side6 A11.out).mono ?_); (case side1 => repeat (first | exact (qk4 HR0_0.out HB.out) | (with_reducible refine Kd.C_alloc ?_ _) | (with_reducible refine Kd.C_drewN ?_ _) | (with_reducible refine Kd.C_drew ?_))); (case side2 => exact HC0_0.out); (case side3 => repeat (first | exact (qk4 HR0_1.out HB.out) | (with_reducible refine Kd.C_alloc ?_ _) | (with_reducible refine Kd.C_drewN ?_ _) | (with_reducible refine Kd.C_drew ?_))); (case side4 => exact HC0_1.out); (case side5 => repeat (first | exact (qk4 HR2.out HB.out) | (with_reducible refine Kd.C_alloc ?_ _) | (with_reducible refine Kd.C_drewN ?_ _) | (with_reducible refine Kd.C_drew ?_))); (case side6 => exact HC2.out); rintro e w15 ⟨rfl, hb⟩; have n0_ := qam (blk_below (g := gb261) (o := .cells #[.slice A0_0 l0_0.length c0_0, .slice A0_1 l0_1.length c0_1, .int .i64 a0_2] 25 (0, 0)) (by (with_reducible repeat (first | refine qb3 ?_ _ | refine qb5 ?_ | refine qb4 ?_ _)); exact BK261.out) hb); have n1_ := qam (qw6 (by repeat (first | (with_reducible first | exact HB.out | apply qw1 | apply qw2 | apply qw3 | refine qw4 ?_ GE261.out) | exact HB.out)) hb); clear BK261; clear HB; have BK261 := n0_; have HB := n1_; clear n0_ n1_; (try clear hb); (try clear hb2); (try clear hk); (try clear hi)))
    go_meet
    case rel => exact ⟨_, ((t263 != 0)), (by first | rfl | (simp; done) | (simp [*]; done)), H', ⟨by first | omega | exact Nat.le_refl _⟩, ⟨by (with_reducible repeat (first | refine qb3 ?_ _ | refine qb5 ?_ | refine qb4 ?_ _)); exact BK261.out⟩, ⟨by repeat (first | (with_reducible first | exact HB.out | apply qw1 | apply qw2 | apply qw3 | refine qw4 ?_ GE261.out) | exact HB.out)⟩⟩
  ·replace c7 := Bool.eq_false_iff.mpr c7
   subst c7
   have H1 : (dataflowlaw28_VpathMatch.j0 k a1 l2 true l0_0 l0_1 a0_2) = some true := by rw [if_neg (show ¬ (false = true) by decide)] at H; exact H
   clear H
   have H := H1
   clear H1
   have H' := qam H
   clear H
   have hcz16_0 : w5.cell? ⟨gb261, 0, none⟩ = some (.slice A0_0 l0_0.length c0_0) := (qb1 BK261.out 0).trans rfl
   have hcz16_1 : w5.cell? ⟨gb261, 1, none⟩ = some (.slice A0_1 l0_1.length c0_1) := (qb1 BK261.out 1).trans rfl
   have hcz16_2 : w5.cell? ⟨gb261, 2, none⟩ = some (.int .i64 a0_2) := (qb1 BK261.out 2).trans rfl
   have hfz16_0 := qb2 BK261.out 0
   have hfz16_1 := qb2 BK261.out 1
   have hfz16_2 := qb2 BK261.out 2
   go_wp2_with (first | ((with_reducible refine gate_callee (f := 14) rfl ?_); refine goesL_ (some 16) rfl rfl Try.func14 (by kernel_rfl) rfl #[.agg #[.slice A0_0 l0_0.length c0_0, .slice A0_1 l0_1.length c0_1, .int .i64 a0_2]] rfl (by (try simp only [List.map_toArray, List.map_cons, List.map_nil]); first | done | rfl | (simp only [List.length_drop, List.length_take]; rfl)) ?_; (with_reducible refine (dataflowlaw28_small.calls _ _ l0_0 _ _ l0_1 a0_2 false _ ?side1 ?side2 ?side3 ?side4 A6.out).mono ?_); (case side1 => repeat (first | exact (qk4 HR0_0.out HB.out) | (with_reducible refine Kd.C_alloc ?_ _) | (with_reducible refine Kd.C_drewN ?_ _) | (with_reducible refine Kd.C_drew ?_))); (case side2 => exact HC0_0.out); (case side3 => repeat (first | exact (qk4 HR0_1.out HB.out) | (with_reducible refine Kd.C_alloc ?_ _) | (with_reducible refine Kd.C_drewN ?_ _) | (with_reducible refine Kd.C_drew ?_))); (case side4 => exact HC0_1.out); rintro e w17 ⟨rfl, hb⟩; refine ⟨_, rfl, ?_⟩; have n0_ := qam (blk_below (g := gb261) (o := .cells #[.slice A0_0 l0_0.length c0_0, .slice A0_1 l0_1.length c0_1, .int .i64 a0_2] 25 (0, 0)) (by (with_reducible repeat (first | refine qb3 ?_ _ | refine qb5 ?_ | refine qb4 ?_ _)); exact BK261.out) hb); have n1_ := qam (qw6 (by repeat (first | (with_reducible first | exact HB.out | apply qw1 | apply qw2 | apply qw3 | refine qw4 ?_ GE261.out) | exact HB.out)) hb); clear BK261; clear HB; have BK261 := n0_; have HB := n1_; clear n0_ n1_; (try clear hb); (try clear hb2); (try clear hk); (try clear hi)))
   go_meet
   case rel => exact ⟨_, (true), (by first | rfl | (simp; done) | (simp [*]; done)), H', ⟨by first | omega | exact Nat.le_refl _⟩, ⟨by (with_reducible repeat (first | refine qb3 ?_ _ | refine qb5 ?_ | refine qb4 ?_ _)); exact BK261.out⟩, ⟨by repeat (first | (with_reducible first | exact HB.out | apply qw1 | apply qw2 | apply qw3 | refine qw4 ?_ GE261.out) | exact HB.out)⟩⟩
 case rest => as_aux_lemma =>
  clear HC4
  try clear c1
  try clear c2
  try clear p2
  try clear c3
  try clear c7
  try clear c8
  try clear c8b0
  try clear c8b1
  try clear c14
  try clear hcz12_0
  try clear hcz12_1
  try clear hcz12_2
  try clear hcz14_0
  try clear hcz14_1
  try clear hcz14_2
  try clear hcz16_0
  try clear hcz16_1
  try clear hcz16_2
  try clear hcz9_0
  try clear hcz9_1
  try clear hcz9_2
  try clear hfz12_0
  try clear hfz12_1
  try clear hfz12_2
  try clear hfz14_0
  try clear hfz14_1
  try clear hfz14_2
  try clear hfz16_0
  try clear hfz16_1
  try clear hfz16_2
  try clear hfz9_0
  try clear hfz9_1
  try clear hfz9_2
  obtain ⟨kq, x29_3, rfl, HA, HJ3, BK261, HB⟩ := hcut
  cases kq with
  | zero => exact absurd HA.out (by simp [dataflowlaw28_VpathMatch.j0])
  | succ kj3 =>
   have H := HA.out
   clear HA
   simp only [dataflowlaw28_VpathMatch.j0] at H
   by_cases c18 : x29_3 = true
   ·subst c18
    have H1 : ((dataflowlaw28_awake.f kj3).bind fun t264 => (some t264)) = some true := by rw [if_pos rfl] at H; exact H
    clear H
    have H := H1
    clear H1
    replace H := Option.bind_eq_some_iff.mp H
    obtain ⟨t264, A190, H⟩ := H
    replace H : (some t264) = some true := H
    have A19 := qam A190
    clear A190
    obtain rfl := Option.some.inj H
    go_wp2_with (first | ((with_reducible refine gate_callee (f := 16) rfl ?_); refine goesL_ (some 30) rfl rfl Try.func16 (by kernel_rfl) rfl #[] rfl (by (try simp only [List.map_toArray, List.map_cons, List.map_nil]); first | done | rfl | (simp only [List.length_drop, List.length_take]; rfl)) ?_; (with_reducible refine (dataflowlaw28_awake.calls kj3  true _ A19.out).mono ?_); rintro e w20 ⟨rfl, hb⟩; refine ⟨_, rfl, ?_⟩; have n0_ := qam (blk_below (g := gb261) (o := .cells #[.slice A0_0 l0_0.length c0_0, .slice A0_1 l0_1.length c0_1, .int .i64 a0_2] 25 (0, 0)) (by (with_reducible repeat (first | refine qb3 ?_ _ | refine qb5 ?_ | refine qb4 ?_ _)); exact BK261.out) hb); have n1_ := qam (qw6 (by repeat (first | (with_reducible first | exact HB.out | apply qw1 | apply qw2 | apply qw3 | refine qw4 ?_ GE261.out) | exact HB.out)) hb); clear BK261; clear HB; have BK261 := n0_; have HB := n1_; clear n0_ n1_; (try clear hb); (try clear hb2); (try clear hk); (try clear hi)))
    go_ret
    exact ⟨by first | rfl | (simp [errW_none, errW_some] <;> rfl) | (simp [*, errW_none, errW_some] <;> rfl), by repeat (first | (with_reducible first | exact HB.out | apply qw1 | apply qw2 | apply qw3 | refine qw4 ?_ GE261.out) | exact HB.out)⟩
   ·replace c18 := Bool.eq_false_iff.mpr c18
    subst c18
    have H1 : (dataflowlaw28_VpathMatch.l0 kj3 a1 l2 a1 ([] : List Int) 0 l0_0 l0_1 a0_2) = some true := by rw [if_neg (show ¬ (false = true) by decide)] at H; exact H
    clear H
    have H := H1
    clear H1
    have H' := qam H
    clear H
    go_wp2
    go_loopg [7, 8, 9] kj3 (fun kq v7 v8 v9 w' => ∃ (x7_2 : Int) (x8_2 : List Int) (x9_2 : Int), v7 = .int .i64 x7_2 ∧ v9 = .int .i64 x9_2 ∧ Aside0 (dataflowlaw28_VpathMatch.l0 kq a1 l2 x7_2 x8_2 x9_2 l0_0 l0_1 a0_2 = some true) ∧ Aside0 (kq ≤ kj3) ∧ Aside0 (Kd.R (Kd.int .i64) 3 w' w.heap.size (fun _ => True) v8 x8_2) ∧ Aside0 (w'.heap[gb261]? = some (.cells #[(.slice A0_0 l0_0.length c0_0), (.slice A0_1 l0_1.length c0_1), .int .i64 a0_2] 25 (0, 0))) ∧ Aside0 (Below w.heap.size w w'))
    case atStart => exact ⟨(a1), (([] : List Int)), (0), (by first | rfl | (simp; done) | (simp [*]; done)), (by first | rfl | (simp; done) | (simp [*]; done)), H', ⟨Nat.le_refl _⟩, ⟨by first | exact Kd.R_nil _ _ _ _ _ | exact Kd.N_nil _ _ _ _ _ | exact Kd.V_nil _ _ _ _ _ | exact Kd.Q_nil _ _ _ _ _ | exact Kd.S_nil _ _ _ _ _⟩, ⟨by (with_reducible repeat (first | refine qb3 ?_ _ | refine qb5 ?_ | refine qb4 ?_ _)); exact BK261.out⟩, ⟨by repeat (first | (with_reducible first | exact HB.out | apply qw1 | apply qw2 | apply qw3 | refine qw4 ?_ GE261.out) | exact HB.out)⟩⟩
    case round =>
     clear H'
     try clear c1
     try clear c2
     try clear p2
     try clear c3
     try clear c7
     try clear c8
     try clear c8b0
     try clear c8b1
     try clear c14
     try clear c16
     try clear c18
     try clear hcz12_0
     try clear hcz12_1
     try clear hcz12_2
     try clear hcz14_0
     try clear hcz14_1
     try clear hcz14_2
     try clear hcz16_0
     try clear hcz16_1
     try clear hcz16_2
     try clear hcz9_0
     try clear hcz9_1
     try clear hcz9_2
     try clear hfz12_0
     try clear hfz12_1
     try clear hfz12_2
     try clear hfz14_0
     try clear hfz14_1
     try clear hfz14_2
     try clear hfz16_0
     try clear hfz16_1
     try clear hfz16_2
     try clear hfz9_0
     try clear hfz9_1
     try clear hfz9_2
     try clear p2
     obtain ⟨x7_2, x8_2, x9_2, rfl, rfl, HA, HK2, HO_8, BK261, HB⟩ := hrel
     cases gk with
     | zero => exact absurd HA.out (by simp [dataflowlaw28_VpathMatch.l0])
     | succ k2 =>
      have H := HA.out
      clear HA
      simp only [dataflowlaw28_VpathMatch.l0] at H
      by_cases c21 : x9_2 < (l2.length : Int)
      ·rw [if_pos c21] at H
       have c21b0 : decide (x9_2 < (l2.length : Int)) = true := decide_eq_true c21
       clear c21
       have HC22 := qam H
       clear H
       go_upto_region 8 with (fail)
       go_cut [65] (fun v65 wc => ∃ (kq : Nat) (x65_21 : Bool), v65 = .bool x65_21 ∧ Aside0 (dataflowlaw28_VpathMatch.j2 kq a1 l2 x8_2 x9_2 x65_21 l0_0 l0_1 a0_2 = some true) ∧ Aside0 (kq ≤ k2) ∧ Aside0 (Kd.R (Kd.int .i64) 3 wc w.heap.size (fun _ => True) u8 x8_2) ∧ Aside0 (wc.heap[gb261]? = some (.cells #[(.slice A0_0 l0_0.length c0_0), (.slice A0_1 l0_1.length c0_1), .int .i64 a0_2] 25 (0, 0))) ∧ Aside0 (Below w.heap.size w wc))
       case first => as_aux_lemma =>
        have H := HC22.out
        clear HC22
        by_cases c23 : 0 ≤ x9_2
        ·rw [if_pos c23] at H
         have c23b0 : decide (0 ≤ x9_2) = true := decide_eq_true c23
         clear c23
         (first | rw [c23b0] | (simp only [i64_w, i32_w]; rw [c23b0]) | skip)
         by_cases c24 : (rd l2 x9_2) < 0
         ·rw [if_pos c24] at H
          have c24b0 : decide ((rd l2 x9_2) < 0) = true := decide_eq_true c24
          clear c24
          have H' := qam H
          clear H
          try go_wp2
          have n0_ := qam (qk3 HO_8.out)
          have n1_ := qam (qb5 BK261.out)
          have n2_ := qam (qw3 HB.out)
          clear HO_8
          clear BK261
          clear HB
          have HO_8 := n0_
          have BK261 := n1_
          have HB := n2_
          clear n0_ n1_ n2_
          have p265 : 0 ≤ (x9_2 : Int) := of_decide_eq_true (by first | (with_reducible assumption) | assumption)
          have q265 : x9_2 < (l2.length : Int) := of_decide_eq_true (by first | (with_reducible assumption) | assumption)
          obtain ⟨ad265, e265, hx265_0⟩ := Kd.at_int HR2.out x9_2 p265 q265
          have hw265_0 := hx265_0
          cases e265
          replace hx265_0 := (HB.out.cell (qbl w _ hx265_0)).trans hx265_0
          replace p265 := eq_true p265
          replace q265 := eq_true q265
          refine start_ (n := 28) (S := fun w' => w'.cell? (ad265.add (x9_2).toNat) = some (.int .i64 (rd l2 x9_2))) (ds := []) #[false, false, false, false, false, false, false, false, false, false, false, false, false, false, false, false, false, false, false, false, false, false, false, false, false, false, false, false] (by kernel_rfl) rfl rfl (((HB.out.cell (qbl w _ hw265_0)).trans hw265_0)) (fun hHeld => ?_); refine with_tabW dataflowlaw28_VpathMatch.tab8 dataflowlaw28_VpathMatch.bits8 (fun HT_ HW_ => ?_)
          generalize wr.drew = w25 at HO_8 BK261 HB hx265_0 hHeld ⊢
          refine pure_ (i := 0) (N := some 38) (v := ?_) (a' := ?_) #[true, false, false, false, false, false, false, false, false, false, false, false, false, false, false, false, false, false, false, false, false, false, false, false, false, false, false, false] rfl rfl (any_of HT_.out (by kernel_rfl)) (fun _ _ _ h => h) (Or.inl ⟨by rfl, ?_⟩) ?_ ?_
          rotate_left
          ·intro w'
           go_simp
           with_reducible rfl
          rotate_left
          ·simp only [Act.put, qs1, qs2, qs3, i64_w, i32_w]
           rfl
          refine pure_ (i := 1) (N := some 39) (v := ?_) (a' := ?_) #[true, true, false, false, false, false, false, false, false, false, false, false, false, false, false, false, false, false, false, false, false, false, false, false, false, false, false, false] rfl rfl (any_of HT_.out (by kernel_rfl)) (fun _ _ _ h => h) (Or.inl ⟨by rfl, ?_⟩) ?_ ?_
          rotate_left
          ·intro w'
           go_simp
           with_reducible rfl
          rotate_left
          ·simp only [Act.put, qs1, qs2, qs3, i64_w, i32_w]
           rfl
          refine pure_ (i := 2) (N := some 40) (v := ?_) (a' := ?_) #[true, true, true, false, false, false, false, false, false, false, false, false, false, false, false, false, false, false, false, false, false, false, false, false, false, false, false, false] rfl rfl (any_of HT_.out (by kernel_rfl)) (fun _ _ _ h => h) (Or.inl ⟨by rfl, ?_⟩) ?_ ?_
          rotate_left
          ·intro w'
           go_simp
           with_reducible rfl
          rotate_left
          ·simp only [Act.put, qs1, qs2, qs3, i64_w, i32_w]
           rfl
          refine take_ (i := 3) (N := some 41) (v := ?_) (a' := ?_) #[true, true, true, true, false, false, false, false, false, false, false, false, false, false, false, false, false, false, false, false, false, false, false, false, false, false, false, false] rfl rfl (take_ofW HT_.out HW_.out (by kernel_rfl)) (fun _ _ _ h => h) (Or.inl ⟨by rfl, ?_⟩) hHeld ?_ ?_
          rotate_left
          ·intro w' s0
           go_simp
           with_reducible rfl
          rotate_left
          ·simp only [Act.put, qs1, qs2, qs3, i64_w, i32_w]
           rfl
          refine pure_ (i := 4) (N := some 42) (v := ?_) (a' := ?_) #[true, true, true, true, true, false, false, false, false, false, false, false, false, false, false, false, false, false, false, false, false, false, false, false, false, false, false, false] rfl rfl (any_of HT_.out (by kernel_rfl)) (fun _ _ _ h => h) (Or.inl ⟨by rfl, ?_⟩) ?_ ?_
          rotate_left
          ·intro w'
           go_simp
           with_reducible rfl
          rotate_left
          ·simp only [Act.put, qs1, qs2, qs3, i64_w, i32_w]
           rfl
          refine pure_ (i := 5) (N := some 43) (v := ?_) (a' := ?_) #[true, true, true, true, true, true, false, false, false, false, false, false, false, false, false, false, false, false, false, false, false, false, false, false, false, false, false, false] rfl rfl (any_of HT_.out (by kernel_rfl)) (fun _ _ _ h => h) (Or.inl ⟨by rfl, ?_⟩) ?_ ?_
          rotate_left
          ·intro w'
           go_simp
           with_reducible rfl
          rotate_left
          ·simp only [Act.put, qs1, qs2, qs3, i64_w, i32_w]
           rfl
          refine pure_ (i := 6) (N := some 44) (v := undef) (a' := ?_) #[true, true, true, true, true, true, true, false, false, false, false, false, false, false, false, false, false, false, false, false, false, false, false, false, false, false, false, false] rfl rfl (any_of HT_.out (by kernel_rfl)) (fun _ _ _ h => h) (Or.inr ⟨by rfl, rfl⟩) ?_ ?_
          rotate_left
          ·simp only [Act.put, qs1, qs2, qs3, i64_w, i32_w]
           rfl
          refine pure_ (i := 7) (N := some 45) (v := undef) (a' := ?_) #[true, true, true, true, true, true, true, true, false, false, false, false, false, false, false, false, false, false, false, false, false, false, false, false, false, false, false, false] rfl rfl (any_of HT_.out (by kernel_rfl)) (fun _ _ _ h => h) (Or.inr ⟨by rfl, rfl⟩) ?_ ?_
          rotate_left
          ·simp only [Act.put, qs1, qs2, qs3, i64_w, i32_w]
           rfl
          refine pure_ (i := 8) (N := some 46) (v := undef) (a' := ?_) #[true, true, true, true, true, true, true, true, true, false, false, false, false, false, false, false, false, false, false, false, false, false, false, false, false, false, false, false] rfl rfl (any_of HT_.out (by kernel_rfl)) (fun _ _ _ h => h) (Or.inr ⟨by rfl, rfl⟩) ?_ ?_
          rotate_left
          ·simp only [Act.put, qs1, qs2, qs3, i64_w, i32_w]
           rfl
          refine pure_ (i := 9) (N := some 47) (v := undef) (a' := ?_) #[true, true, true, true, true, true, true, true, true, true, false, false, false, false, false, false, false, false, false, false, false, false, false, false, false, false, false, false] rfl rfl (any_of HT_.out (by kernel_rfl)) (fun _ _ _ h => h) (Or.inr ⟨by rfl, rfl⟩) ?_ ?_
          rotate_left
          ·simp only [Act.put, qs1, qs2, qs3, i64_w, i32_w]
           rfl
          refine pure_ (i := 10) (N := some 48) (v := undef) (a' := ?_) #[true, true, true, true, true, true, true, true, true, true, true, false, false, false, false, false, false, false, false, false, false, false, false, false, false, false, false, false] rfl rfl (any_of HT_.out (by kernel_rfl)) (fun _ _ _ h => h) (Or.inr ⟨by rfl, rfl⟩) ?_ ?_
          rotate_left
          ·simp only [Act.put, qs1, qs2, qs3, i64_w, i32_w]
           rfl
          refine pure_ (i := 11) (N := some 49) (v := undef) (a' := ?_) #[true, true, true, true, true, true, true, true, true, true, true, true, false, false, false, false, false, false, false, false, false, false, false, false, false, false, false, false] rfl rfl (any_of HT_.out (by kernel_rfl)) (fun _ _ _ h => h) (Or.inr ⟨by rfl, rfl⟩) ?_ ?_
          rotate_left
          ·simp only [Act.put, qs1, qs2, qs3, i64_w, i32_w]
           rfl
          refine pure_ (i := 12) (N := some 50) (v := undef) (a' := ?_) #[true, true, true, true, true, true, true, true, true, true, true, true, true, false, false, false, false, false, false, false, false, false, false, false, false, false, false, false] rfl rfl (any_of HT_.out (by kernel_rfl)) (fun _ _ _ h => h) (Or.inr ⟨by rfl, rfl⟩) ?_ ?_
          rotate_left
          ·simp only [Act.put, qs1, qs2, qs3, i64_w, i32_w]
           rfl
          refine pure_ (i := 13) (N := some 51) (v := undef) (a' := ?_) #[true, true, true, true, true, true, true, true, true, true, true, true, true, true, false, false, false, false, false, false, false, false, false, false, false, false, false, false] rfl rfl (any_of HT_.out (by kernel_rfl)) (fun _ _ _ h => h) (Or.inr ⟨by rfl, rfl⟩) ?_ ?_
          rotate_left
          ·simp only [Act.put, qs1, qs2, qs3, i64_w, i32_w]
           rfl
          refine pure_ (i := 14) (N := some 52) (v := ?_) (a' := ?_) #[true, true, true, true, true, true, true, true, true, true, true, true, true, true, true, false, false, false, false, false, false, false, false, false, false, false, false, false] rfl rfl (any_of HT_.out (by kernel_rfl)) (fun _ _ _ h => h) (Or.inl ⟨by rfl, ?_⟩) ?_ ?_
          rotate_left
          ·intro w'
           go_simp
           with_reducible rfl
          rotate_left
          ·simp only [Act.put, qs1, qs2, qs3, i64_w, i32_w]
           rfl
          refine pure_ (i := 15) (N := some 53) (v := ?_) (a' := ?_) #[true, true, true, true, true, true, true, true, true, true, true, true, true, true, true, true, false, false, false, false, false, false, false, false, false, false, false, false] rfl rfl (any_of HT_.out (by kernel_rfl)) (fun _ _ _ h => h) (Or.inl ⟨by rfl, ?_⟩) ?_ ?_
          rotate_left
          ·intro w'
           go_simp
           with_reducible rfl
          rotate_left
          ·simp only [Act.put, qs1, qs2, qs3, i64_w, i32_w]
           rfl
          refine pure_ (i := 16) (N := some 54) (v := undef) (a' := ?_) #[true, true, true, true, true, true, true, true, true, true, true, true, true, true, true, true, true, false, false, false, false, false, false, false, false, false, false, false] rfl rfl (any_of HT_.out (by kernel_rfl)) (fun _ _ _ h => h) (Or.inr ⟨by rfl, rfl⟩) ?_ ?_
          rotate_left
          ·simp only [Act.put, qs1, qs2, qs3, i64_w, i32_w]
           rfl
          refine pure_ (i := 17) (N := some 55) (v := undef) (a' := ?_) #[true, true, true, true, true, true, true, true, true, true, true, true, true, true, true, true, true, true, false, false, false, false, false, false, false, false, false, false] rfl rfl (any_of HT_.out (by kernel_rfl)) (fun _ _ _ h => h) (Or.inr ⟨by rfl, rfl⟩) ?_ ?_
          rotate_left
          ·simp only [Act.put, qs1, qs2, qs3, i64_w, i32_w]
           rfl
          refine pure_ (i := 18) (N := some 56) (v := undef) (a' := ?_) #[true, true, true, true, true, true, true, true, true, true, true, true, true, true, true, true, true, true, true, false, false, false, false, false, false, false, false, false] rfl rfl (any_of HT_.out (by kernel_rfl)) (fun _ _ _ h => h) (Or.inr ⟨by rfl, rfl⟩) ?_ ?_
          rotate_left
          ·simp only [Act.put, qs1, qs2, qs3, i64_w, i32_w]
           rfl
          refine pure_ (i := 19) (N := some 57) (v := undef) (a' := ?_) #[true, true, true, true, true, true, true, true, true, true, true, true, true, true, true, true, true, true, true, true, false, false, false, false, false, false, false, false] rfl rfl (any_of HT_.out (by kernel_rfl)) (fun _ _ _ h => h) (Or.inr ⟨by rfl, rfl⟩) ?_ ?_
          rotate_left
          ·simp only [Act.put, qs1, qs2, qs3, i64_w, i32_w]
           rfl
          refine pure_ (i := 20) (N := some 58) (v := undef) (a' := ?_) #[true, true, true, true, true, true, true, true, true, true, true, true, true, true, true, true, true, true, true, true, true, false, false, false, false, false, false, false] rfl rfl (any_of HT_.out (by kernel_rfl)) (fun _ _ _ h => h) (Or.inr ⟨by rfl, rfl⟩) ?_ ?_
          rotate_left
          ·simp only [Act.put, qs1, qs2, qs3, i64_w, i32_w]
           rfl
          refine pure_ (i := 21) (N := some 59) (v := undef) (a' := ?_) #[true, true, true, true, true, true, true, true, true, true, true, true, true, true, true, true, true, true, true, true, true, true, false, false, false, false, false, false] rfl rfl (any_of HT_.out (by kernel_rfl)) (fun _ _ _ h => h) (Or.inr ⟨by rfl, rfl⟩) ?_ ?_
          rotate_left
          ·simp only [Act.put, qs1, qs2, qs3, i64_w, i32_w]
           rfl
          refine pure_ (i := 22) (N := some 60) (v := undef) (a' := ?_) #[true, true, true, true, true, true, true, true, true, true, true, true, true, true, true, true, true, true, true, true, true, true, true, false, false, false, false, false] rfl rfl (any_of HT_.out (by kernel_rfl)) (fun _ _ _ h => h) (Or.inr ⟨by rfl, rfl⟩) ?_ ?_
          rotate_left
          ·simp only [Act.put, qs1, qs2, qs3, i64_w, i32_w]
           rfl
          refine pure_ (i := 23) (N := some 61) (v := undef) (a' := ?_) #[true, true, true, true, true, true, true, true, true, true, true, true, true, true, true, true, true, true, true, true, true, true, true, true, false, false, false, false] rfl rfl (any_of HT_.out (by kernel_rfl)) (fun _ _ _ h => h) (Or.inr ⟨by rfl, rfl⟩) ?_ ?_
          rotate_left
          ·simp only [Act.put, qs1, qs2, qs3, i64_w, i32_w]
           rfl
          refine pure_ (i := 24) (N := some 62) (v := undef) (a' := ?_) #[true, true, true, true, true, true, true, true, true, true, true, true, true, true, true, true, true, true, true, true, true, true, true, true, true, false, false, false] rfl rfl (any_of HT_.out (by kernel_rfl)) (fun _ _ _ h => h) (Or.inr ⟨by rfl, rfl⟩) ?_ ?_
          rotate_left
          ·simp only [Act.put, qs1, qs2, qs3, i64_w, i32_w]
           rfl
          refine pure_ (i := 25) (N := some 63) (v := undef) (a' := ?_) #[true, true, true, true, true, true, true, true, true, true, true, true, true, true, true, true, true, true, true, true, true, true, true, true, true, true, false, false] rfl rfl (any_of HT_.out (by kernel_rfl)) (fun _ _ _ h => h) (Or.inr ⟨by rfl, rfl⟩) ?_ ?_
          rotate_left
          ·simp only [Act.put, qs1, qs2, qs3, i64_w, i32_w]
           rfl
          refine pure_ (i := 26) (N := some 64) (v := undef) (a' := ?_) #[true, true, true, true, true, true, true, true, true, true, true, true, true, true, true, true, true, true, true, true, true, true, true, true, true, true, true, false] rfl rfl (any_of HT_.out (by kernel_rfl)) (fun _ _ _ h => h) (Or.inr ⟨by rfl, rfl⟩) ?_ ?_
          rotate_left
          ·simp only [Act.put, qs1, qs2, qs3, i64_w, i32_w]
           rfl
          refine pure_ (i := 27) (N := some 65) (v := ?_) (a' := ?_) #[true, true, true, true, true, true, true, true, true, true, true, true, true, true, true, true, true, true, true, true, true, true, true, true, true, true, true, true] rfl rfl (any_of HT_.out (by kernel_rfl)) (fun _ _ _ h => h) (Or.inl ⟨by rfl, ?_⟩) ?_ ?_
          rotate_left
          ·intro w'
           go_simp
           with_reducible rfl
          rotate_left
          ·simp only [Act.put, qs1, qs2, qs3, i64_w, i32_w]
           rfl
          refine done_ (done_of HT_.out (by kernel_rfl)) ?_
          try go_wp2
          go_meet
          case rel => exact ⟨_, (true), (by first | rfl | (simp; done) | (simp [*]; done)), H', ⟨by have := HJ3.out; have := HK2.out; first | omega | exact Nat.le_refl _⟩, ⟨by (with_reducible repeat (first | apply qk1 | apply qk2 | apply qk3)); exact HO_8.out⟩, ⟨by (with_reducible repeat (first | refine qb3 ?_ _ | refine qb5 ?_ | refine qb4 ?_ _)); exact BK261.out⟩, ⟨by repeat (first | (with_reducible first | exact HB.out | apply qw1 | apply qw2 | apply qw3 | refine qw4 ?_ GE261.out) | exact HB.out)⟩⟩
         ·rw [if_neg c24] at H
          have c24b0 : decide ((rd l2 x9_2) < 0) = false := decide_eq_false c24
          clear c24
          by_cases c26 : (rd l2 x9_2) ≥ (l0_1.length : Int)
          ·rw [if_pos c26] at H
           have c26b0 : decide ((l0_1.length : Int) ≤ (rd l2 x9_2)) = true := decide_eq_true c26
           clear c26
           have H' := qam H
           clear H
           try go_wp2
           have n0_ := qam (qk3 HO_8.out)
           have n1_ := qam (qb5 BK261.out)
           have n2_ := qam (qw3 HB.out)
           clear HO_8
           clear BK261
           clear HB
           have HO_8 := n0_
           have BK261 := n1_
           have HB := n2_
           clear n0_ n1_ n2_
           have p265 : 0 ≤ (x9_2 : Int) := of_decide_eq_true (by first | (with_reducible assumption) | assumption)
           have q265 : x9_2 < (l2.length : Int) := of_decide_eq_true (by first | (with_reducible assumption) | assumption)
           obtain ⟨ad265, e265, hx265_0⟩ := Kd.at_int HR2.out x9_2 p265 q265
           have hw265_0 := hx265_0
           cases e265
           replace hx265_0 := (HB.out.cell (qbl w _ hx265_0)).trans hx265_0
           replace p265 := eq_true p265
           replace q265 := eq_true q265
           have p266 : 0 ≤ (x9_2 : Int) := of_decide_eq_true (by first | (with_reducible assumption) | assumption)
           have q266 : x9_2 < (l2.length : Int) := of_decide_eq_true (by first | (with_reducible assumption) | assumption)
           obtain ⟨ad266, e266, hx266_0⟩ := Kd.at_int HR2.out x9_2 p266 q266
           have hw266_0 := hx266_0
           obtain rfl : ad265 = ad266 := (by injection e266)
           replace hx266_0 := (HB.out.cell (qbl w _ hx266_0)).trans hx266_0
           replace p266 := eq_true p266
           replace q266 := eq_true q266
           refine start_ (n := 28) (S := fun w' => w'.cell? ⟨gb261, 0, none⟩ = some (.slice A0_0 l0_0.length c0_0) ∧ w'.cell? ⟨gb261, 1, none⟩ = some (.slice A0_1 l0_1.length c0_1) ∧ w'.cell? ⟨gb261, 2, none⟩ = some (.int .i64 a0_2) ∧ w'.cell? (ad265.add (x9_2).toNat) = some (.int .i64 (rd l2 x9_2)) ∧ w'.cell? (ad265.add (x9_2).toNat) = some (.int .i64 (rd l2 x9_2))) (ds := []) #[false, false, false, false, false, false, false, false, false, false, false, false, false, false, false, false, false, false, false, false, false, false, false, false, false, false, false, false] (by kernel_rfl) rfl rfl ⟨(qb1 BK261.out 0).trans rfl, (qb1 BK261.out 1).trans rfl, (qb1 BK261.out 2).trans rfl, ((HB.out.cell (qbl w _ hw265_0)).trans hw265_0), ((HB.out.cell (qbl w _ hw266_0)).trans hw266_0)⟩ (fun hHeld => ?_); refine with_tabW dataflowlaw28_VpathMatch.tab8 dataflowlaw28_VpathMatch.bits8 (fun HT_ HW_ => ?_)
           generalize wr.drew = w27 at HO_8 BK261 HB hx265_0 hx266_0 hHeld ⊢
           refine pure_ (i := 0) (N := some 38) (v := ?_) (a' := ?_) #[true, false, false, false, false, false, false, false, false, false, false, false, false, false, false, false, false, false, false, false, false, false, false, false, false, false, false, false] rfl rfl (any_of HT_.out (by kernel_rfl)) (fun _ _ _ h => h) (Or.inl ⟨by rfl, ?_⟩) ?_ ?_
           rotate_left
           ·intro w'
            go_simp
            with_reducible rfl
           rotate_left
           ·simp only [Act.put, qs1, qs2, qs3, i64_w, i32_w]
            rfl
           refine pure_ (i := 1) (N := some 39) (v := ?_) (a' := ?_) #[true, true, false, false, false, false, false, false, false, false, false, false, false, false, false, false, false, false, false, false, false, false, false, false, false, false, false, false] rfl rfl (any_of HT_.out (by kernel_rfl)) (fun _ _ _ h => h) (Or.inl ⟨by rfl, ?_⟩) ?_ ?_
           rotate_left
           ·intro w'
            go_simp
            with_reducible rfl
           rotate_left
           ·simp only [Act.put, qs1, qs2, qs3, i64_w, i32_w]
            rfl
           refine pure_ (i := 2) (N := some 40) (v := ?_) (a' := ?_) #[true, true, true, false, false, false, false, false, false, false, false, false, false, false, false, false, false, false, false, false, false, false, false, false, false, false, false, false] rfl rfl (any_of HT_.out (by kernel_rfl)) (fun _ _ _ h => h) (Or.inl ⟨by rfl, ?_⟩) ?_ ?_
           rotate_left
           ·intro w'
            go_simp
            with_reducible rfl
           rotate_left
           ·simp only [Act.put, qs1, qs2, qs3, i64_w, i32_w]
            rfl
           refine take_ (i := 3) (N := some 41) (v := ?_) (a' := ?_) #[true, true, true, true, false, false, false, false, false, false, false, false, false, false, false, false, false, false, false, false, false, false, false, false, false, false, false, false] rfl rfl (take_ofW HT_.out HW_.out (by kernel_rfl)) (fun _ _ _ h => h) (Or.inl ⟨by rfl, ?_⟩) hHeld ?_ ?_
           rotate_left
           ·rintro w' ⟨s0, s1, s2, s3, s4⟩
            go_simp
            with_reducible rfl
           rotate_left
           ·simp only [Act.put, qs1, qs2, qs3, i64_w, i32_w]
            rfl
           refine pure_ (i := 4) (N := some 42) (v := ?_) (a' := ?_) #[true, true, true, true, true, false, false, false, false, false, false, false, false, false, false, false, false, false, false, false, false, false, false, false, false, false, false, false] rfl rfl (any_of HT_.out (by kernel_rfl)) (fun _ _ _ h => h) (Or.inl ⟨by rfl, ?_⟩) ?_ ?_
           rotate_left
           ·intro w'
            go_simp
            with_reducible rfl
           rotate_left
           ·simp only [Act.put, qs1, qs2, qs3, i64_w, i32_w]
            rfl
           refine pure_ (i := 5) (N := some 43) (v := ?_) (a' := ?_) #[true, true, true, true, true, true, false, false, false, false, false, false, false, false, false, false, false, false, false, false, false, false, false, false, false, false, false, false] rfl rfl (any_of HT_.out (by kernel_rfl)) (fun _ _ _ h => h) (Or.inl ⟨by rfl, ?_⟩) ?_ ?_
           rotate_left
           ·intro w'
            go_simp
            with_reducible rfl
           rotate_left
           ·simp only [Act.put, qs1, qs2, qs3, i64_w, i32_w]
            rfl
           refine pure_ (i := 6) (N := some 44) (v := ?_) (a' := ?_) #[true, true, true, true, true, true, true, false, false, false, false, false, false, false, false, false, false, false, false, false, false, false, false, false, false, false, false, false] rfl rfl (any_of HT_.out (by kernel_rfl)) (fun _ _ _ h => h) (Or.inl ⟨by rfl, ?_⟩) ?_ ?_
           rotate_left
           ·intro w'
            go_simp
            with_reducible rfl
           rotate_left
           ·simp only [Act.put, qs1, qs2, qs3, i64_w, i32_w]
            rfl
           refine pure_ (i := 7) (N := some 45) (v := ?_) (a' := ?_) #[true, true, true, true, true, true, true, true, false, false, false, false, false, false, false, false, false, false, false, false, false, false, false, false, false, false, false, false] rfl rfl (any_of HT_.out (by kernel_rfl)) (fun _ _ _ h => h) (Or.inl ⟨by rfl, ?_⟩) ?_ ?_
           rotate_left
           ·intro w'
            go_simp
            with_reducible rfl
           rotate_left
           ·simp only [Act.put, qs1, qs2, qs3, i64_w, i32_w]
            rfl
           refine pure_ (i := 8) (N := some 46) (v := ?_) (a' := ?_) #[true, true, true, true, true, true, true, true, true, false, false, false, false, false, false, false, false, false, false, false, false, false, false, false, false, false, false, false] rfl rfl (any_of HT_.out (by kernel_rfl)) (fun _ _ _ h => h) (Or.inl ⟨by rfl, ?_⟩) ?_ ?_
           rotate_left
           ·intro w'
            go_simp
            with_reducible rfl
           rotate_left
           ·simp only [Act.put, qs1, qs2, qs3, i64_w, i32_w]
            rfl
           refine pure_ (i := 10) (N := some 48) (v := ?_) (a' := ?_) #[true, true, true, true, true, true, true, true, true, false, true, false, false, false, false, false, false, false, false, false, false, false, false, false, false, false, false, false] rfl rfl (any_of HT_.out (by kernel_rfl)) (fun _ _ _ h => h) (Or.inl ⟨by rfl, ?_⟩) ?_ ?_
           rotate_left
           ·intro w'
            go_simp
            with_reducible rfl
           rotate_left
           ·simp only [Act.put, qs1, qs2, qs3, i64_w, i32_w]
            rfl
           refine take_ (i := 9) (N := some 47) (v := ?_) (a' := ?_) #[true, true, true, true, true, true, true, true, true, true, true, false, false, false, false, false, false, false, false, false, false, false, false, false, false, false, false, false] rfl rfl (take_ofW HT_.out HW_.out (by kernel_rfl)) (fun _ _ _ h => h) (Or.inl ⟨by rfl, ?_⟩) hHeld ?_ ?_
           rotate_left
           ·rintro w' ⟨s0, s1, s2, s3, s4⟩
            go_simp
            with_reducible rfl
           rotate_left
           ·simp only [Act.put, qs1, qs2, qs3, i64_w, i32_w]
            rfl
           refine take_ (i := 11) (N := some 49) (v := ?_) (a' := ?_) #[true, true, true, true, true, true, true, true, true, true, true, true, false, false, false, false, false, false, false, false, false, false, false, false, false, false, false, false] rfl rfl (take_ofW HT_.out HW_.out (by kernel_rfl)) (fun _ _ _ h => h) (Or.inl ⟨by rfl, ?_⟩) hHeld ?_ ?_
           rotate_left
           ·rintro w' ⟨s0, s1, s2, s3, s4⟩
            go_simp
            with_reducible rfl
           rotate_left
           ·simp only [Act.put, qs1, qs2, qs3, i64_w, i32_w]
            rfl
           refine pure_ (i := 12) (N := some 50) (v := ?_) (a' := ?_) #[true, true, true, true, true, true, true, true, true, true, true, true, true, false, false, false, false, false, false, false, false, false, false, false, false, false, false, false] rfl rfl (any_of HT_.out (by kernel_rfl)) (fun _ _ _ h => h) (Or.inl ⟨by rfl, ?_⟩) ?_ ?_
           rotate_left
           ·intro w'
            go_simp
            with_reducible rfl
           rotate_left
           ·simp only [Act.put, qs1, qs2, qs3, i64_w, i32_w]
            rfl
           refine pure_ (i := 13) (N := some 51) (v := ?_) (a' := ?_) #[true, true, true, true, true, true, true, true, true, true, true, true, true, true, false, false, false, false, false, false, false, false, false, false, false, false, false, false] rfl rfl (any_of HT_.out (by kernel_rfl)) (fun _ _ _ h => h) (Or.inl ⟨by rfl, ?_⟩) ?_ ?_
           rotate_left
           ·intro w'
            go_simp
            with_reducible rfl
           rotate_left
           ·simp only [Act.put, qs1, qs2, qs3, i64_w, i32_w]
            rfl
           refine pure_ (i := 14) (N := some 52) (v := ?_) (a' := ?_) #[true, true, true, true, true, true, true, true, true, true, true, true, true, true, true, false, false, false, false, false, false, false, false, false, false, false, false, false] rfl rfl (any_of HT_.out (by kernel_rfl)) (fun _ _ _ h => h) (Or.inl ⟨by rfl, ?_⟩) ?_ ?_
           rotate_left
           ·intro w'
            go_simp
            with_reducible rfl
           rotate_left
           ·simp only [Act.put, qs1, qs2, qs3, i64_w, i32_w]
            rfl
           refine pure_ (i := 15) (N := some 53) (v := ?_) (a' := ?_) #[true, true, true, true, true, true, true, true, true, true, true, true, true, true, true, true, false, false, false, false, false, false, false, false, false, false, false, false] rfl rfl (any_of HT_.out (by kernel_rfl)) (fun _ _ _ h => h) (Or.inl ⟨by rfl, ?_⟩) ?_ ?_
           rotate_left
           ·intro w'
            go_simp
            with_reducible rfl
           rotate_left
           ·simp only [Act.put, qs1, qs2, qs3, i64_w, i32_w]
            rfl
           refine pure_ (i := 16) (N := some 54) (v := undef) (a' := ?_) #[true, true, true, true, true, true, true, true, true, true, true, true, true, true, true, true, true, false, false, false, false, false, false, false, false, false, false, false] rfl rfl (any_of HT_.out (by kernel_rfl)) (fun _ _ _ h => h) (Or.inr ⟨by rfl, rfl⟩) ?_ ?_
           rotate_left
           ·simp only [Act.put, qs1, qs2, qs3, i64_w, i32_w]
            rfl
           refine pure_ (i := 17) (N := some 55) (v := undef) (a' := ?_) #[true, true, true, true, true, true, true, true, true, true, true, true, true, true, true, true, true, true, false, false, false, false, false, false, false, false, false, false] rfl rfl (any_of HT_.out (by kernel_rfl)) (fun _ _ _ h => h) (Or.inr ⟨by rfl, rfl⟩) ?_ ?_
           rotate_left
           ·simp only [Act.put, qs1, qs2, qs3, i64_w, i32_w]
            rfl
           refine pure_ (i := 18) (N := some 56) (v := undef) (a' := ?_) #[true, true, true, true, true, true, true, true, true, true, true, true, true, true, true, true, true, true, true, false, false, false, false, false, false, false, false, false] rfl rfl (any_of HT_.out (by kernel_rfl)) (fun _ _ _ h => h) (Or.inr ⟨by rfl, rfl⟩) ?_ ?_
           rotate_left
           ·simp only [Act.put, qs1, qs2, qs3, i64_w, i32_w]
            rfl
           refine pure_ (i := 19) (N := some 57) (v := undef) (a' := ?_) #[true, true, true, true, true, true, true, true, true, true, true, true, true, true, true, true, true, true, true, true, false, false, false, false, false, false, false, false] rfl rfl (any_of HT_.out (by kernel_rfl)) (fun _ _ _ h => h) (Or.inr ⟨by rfl, rfl⟩) ?_ ?_
           rotate_left
           ·simp only [Act.put, qs1, qs2, qs3, i64_w, i32_w]
            rfl
           refine pure_ (i := 20) (N := some 58) (v := undef) (a' := ?_) #[true, true, true, true, true, true, true, true, true, true, true, true, true, true, true, true, true, true, true, true, true, false, false, false, false, false, false, false] rfl rfl (any_of HT_.out (by kernel_rfl)) (fun _ _ _ h => h) (Or.inr ⟨by rfl, rfl⟩) ?_ ?_
           rotate_left
           ·simp only [Act.put, qs1, qs2, qs3, i64_w, i32_w]
            rfl
           refine pure_ (i := 21) (N := some 59) (v := undef) (a' := ?_) #[true, true, true, true, true, true, true, true, true, true, true, true, true, true, true, true, true, true, true, true, true, true, false, false, false, false, false, false] rfl rfl (any_of HT_.out (by kernel_rfl)) (fun _ _ _ h => h) (Or.inr ⟨by rfl, rfl⟩) ?_ ?_
           rotate_left
           ·simp only [Act.put, qs1, qs2, qs3, i64_w, i32_w]
            rfl
           refine pure_ (i := 22) (N := some 60) (v := undef) (a' := ?_) #[true, true, true, true, true, true, true, true, true, true, true, true, true, true, true, true, true, true, true, true, true, true, true, false, false, false, false, false] rfl rfl (any_of HT_.out (by kernel_rfl)) (fun _ _ _ h => h) (Or.inr ⟨by rfl, rfl⟩) ?_ ?_
           rotate_left
           ·simp only [Act.put, qs1, qs2, qs3, i64_w, i32_w]
            rfl
           refine pure_ (i := 23) (N := some 61) (v := undef) (a' := ?_) #[true, true, true, true, true, true, true, true, true, true, true, true, true, true, true, true, true, true, true, true, true, true, true, true, false, false, false, false] rfl rfl (any_of HT_.out (by kernel_rfl)) (fun _ _ _ h => h) (Or.inr ⟨by rfl, rfl⟩) ?_ ?_
           rotate_left
           ·simp only [Act.put, qs1, qs2, qs3, i64_w, i32_w]
            rfl
           refine pure_ (i := 24) (N := some 62) (v := undef) (a' := ?_) #[true, true, true, true, true, true, true, true, true, true, true, true, true, true, true, true, true, true, true, true, true, true, true, true, true, false, false, false] rfl rfl (any_of HT_.out (by kernel_rfl)) (fun _ _ _ h => h) (Or.inr ⟨by rfl, rfl⟩) ?_ ?_
           rotate_left
           ·simp only [Act.put, qs1, qs2, qs3, i64_w, i32_w]
            rfl
           refine pure_ (i := 25) (N := some 63) (v := undef) (a' := ?_) #[true, true, true, true, true, true, true, true, true, true, true, true, true, true, true, true, true, true, true, true, true, true, true, true, true, true, false, false] rfl rfl (any_of HT_.out (by kernel_rfl)) (fun _ _ _ h => h) (Or.inr ⟨by rfl, rfl⟩) ?_ ?_
           rotate_left
           ·simp only [Act.put, qs1, qs2, qs3, i64_w, i32_w]
            rfl
           refine pure_ (i := 26) (N := some 64) (v := undef) (a' := ?_) #[true, true, true, true, true, true, true, true, true, true, true, true, true, true, true, true, true, true, true, true, true, true, true, true, true, true, true, false] rfl rfl (any_of HT_.out (by kernel_rfl)) (fun _ _ _ h => h) (Or.inr ⟨by rfl, rfl⟩) ?_ ?_
           rotate_left
           ·simp only [Act.put, qs1, qs2, qs3, i64_w, i32_w]
            rfl
           refine pure_ (i := 27) (N := some 65) (v := ?_) (a' := ?_) #[true, true, true, true, true, true, true, true, true, true, true, true, true, true, true, true, true, true, true, true, true, true, true, true, true, true, true, true] rfl rfl (any_of HT_.out (by kernel_rfl)) (fun _ _ _ h => h) (Or.inl ⟨by rfl, ?_⟩) ?_ ?_
           rotate_left
           ·intro w'
            go_simp
            with_reducible rfl
           rotate_left
           ·simp only [Act.put, qs1, qs2, qs3, i64_w, i32_w]
            rfl
           refine done_ (done_of HT_.out (by kernel_rfl)) ?_
           try go_wp2
           go_meet
           case rel => exact ⟨_, (true), (by first | rfl | (simp; done) | (simp [*]; done)), H', ⟨by have := HJ3.out; have := HK2.out; first | omega | exact Nat.le_refl _⟩, ⟨by (with_reducible repeat (first | apply qk1 | apply qk2 | apply qk3)); exact HO_8.out⟩, ⟨by (with_reducible repeat (first | refine qb3 ?_ _ | refine qb5 ?_ | refine qb4 ?_ _)); exact BK261.out⟩, ⟨by repeat (first | (with_reducible first | exact HB.out | apply qw1 | apply qw2 | apply qw3 | refine qw4 ?_ GE261.out) | exact HB.out)⟩⟩
          ·rw [if_neg c26] at H
           have c26b0 : decide ((l0_1.length : Int) ≤ (rd l2 x9_2)) = false := decide_eq_false c26
           clear c26
           by_cases c28 : 0 ≤ (rd l2 x9_2)
           ·rw [if_pos c28] at H
            have c28b0 : decide (0 ≤ (rd l2 x9_2)) = true := decide_eq_true c28
            clear c28
            by_cases c29 : (rd l2 x9_2) < (l0_1.length : Int)
            ·rw [if_pos c29] at H
             have c29b0 : decide ((rd l2 x9_2) < (l0_1.length : Int)) = true := decide_eq_true c29
             clear c29
             have H' := qam H
             clear H
             try go_wp2
             have n0_ := qam (qk3 HO_8.out)
             have n1_ := qam (qb5 BK261.out)
             have n2_ := qam (qw3 HB.out)
             clear HO_8
             clear BK261
             clear HB
             have HO_8 := n0_
             have BK261 := n1_
             have HB := n2_
             clear n0_ n1_ n2_
             have p265 : 0 ≤ (x9_2 : Int) := of_decide_eq_true (by first | (with_reducible assumption) | assumption)
             have q265 : x9_2 < (l2.length : Int) := of_decide_eq_true (by first | (with_reducible assumption) | assumption)
             obtain ⟨ad265, e265, hx265_0⟩ := Kd.at_int HR2.out x9_2 p265 q265
             have hw265_0 := hx265_0
             cases e265
             replace hx265_0 := (HB.out.cell (qbl w _ hx265_0)).trans hx265_0
             replace p265 := eq_true p265
             replace q265 := eq_true q265
             have p266 : 0 ≤ (x9_2 : Int) := of_decide_eq_true (by first | (with_reducible assumption) | assumption)
             have q266 : x9_2 < (l2.length : Int) := of_decide_eq_true (by first | (with_reducible assumption) | assumption)
             obtain ⟨ad266, e266, hx266_0⟩ := Kd.at_int HR2.out x9_2 p266 q266
             have hw266_0 := hx266_0
             obtain rfl : ad265 = ad266 := (by injection e266)
             replace hx266_0 := (HB.out.cell (qbl w _ hx266_0)).trans hx266_0
             replace p266 := eq_true p266
             replace q266 := eq_true q266
             have p267 : 0 ≤ (x9_2 : Int) := of_decide_eq_true (by first | (with_reducible assumption) | assumption)
             have q267 : x9_2 < (l2.length : Int) := of_decide_eq_true (by first | (with_reducible assumption) | assumption)
             obtain ⟨ad267, e267, hx267_0⟩ := Kd.at_int HR2.out x9_2 p267 q267
             have hw267_0 := hx267_0
             obtain rfl : ad265 = ad267 := (by injection e267)
             replace hx267_0 := (HB.out.cell (qbl w _ hx267_0)).trans hx267_0
             replace p267 := eq_true p267
             replace q267 := eq_true q267
             have p268 : 0 ≤ ((rd l2 x9_2) : Int) := of_decide_eq_true (by first | (with_reducible assumption) | assumption)
             have q268 : (rd l2 x9_2) < (l0_1.length : Int) := of_decide_eq_true (by first | (with_reducible assumption) | assumption)
             obtain ⟨ad268, e268, hx268_0, hx268_1, hx268_2, hx268_3⟩ := at_T32 HR0_1.out (rd l2 x9_2) p268 q268
             have hw268_3 := hx268_3
             have hw268_2 := hx268_2
             have hw268_1 := hx268_1
             have hw268_0 := hx268_0
             cases e268
             replace hx268_0 := (HB.out.cell (qbl w _ hx268_0)).trans hx268_0
             replace hx268_1 := (HB.out.cell (qbl w _ hx268_1)).trans hx268_1
             replace hx268_2 := (HB.out.cell (qbl w _ hx268_2)).trans hx268_2
             replace hx268_3 := (HB.out.cell (qbl w _ hx268_3)).trans hx268_3
             replace p268 := eq_true p268
             replace q268 := eq_true q268
             refine start_ (n := 28) (S := fun w' => w'.cell? ⟨gb261, 0, none⟩ = some (.slice A0_0 l0_0.length c0_0) ∧ w'.cell? ⟨gb261, 1, none⟩ = some (.slice (some ad268) l0_1.length c0_1) ∧ w'.cell? ⟨gb261, 2, none⟩ = some (.int .i64 a0_2) ∧ w'.cell? (ad265.add (x9_2).toNat) = some (.int .i64 (rd l2 x9_2)) ∧ w'.cell? (ad265.add (x9_2).toNat) = some (.int .i64 (rd l2 x9_2)) ∧ w'.cell? (ad265.add (x9_2).toNat) = some (.int .i64 (rd l2 x9_2)) ∧ w'.cell? (ad268.add (((rd l2 x9_2)).toNat * 4)) = some (.int .i64 ((rd_T32 l0_1 (rd l2 x9_2)).f0)) ∧ w'.cell? ⟨(ad268.add (((rd l2 x9_2)).toNat * 4)).block, (ad268.add (((rd l2 x9_2)).toNat * 4)).off + 1, none⟩ = some (.int .i64 ((rd_T32 l0_1 (rd l2 x9_2)).f1)) ∧ w'.cell? ⟨(ad268.add (((rd l2 x9_2)).toNat * 4)).block, (ad268.add (((rd l2 x9_2)).toNat * 4)).off + 2, none⟩ = some (.int .i64 ((rd_T32 l0_1 (rd l2 x9_2)).f2)) ∧ w'.cell? ⟨(ad268.add (((rd l2 x9_2)).toNat * 4)).block, (ad268.add (((rd l2 x9_2)).toNat * 4)).off + 3, none⟩ = some (.int .i64 ((rd_T32 l0_1 (rd l2 x9_2)).f3))) (ds := []) #[false, false, false, false, false, false, false, false, false, false, false, false, false, false, false, false, false, false, false, false, false, false, false, false, false, false, false, false] (by kernel_rfl) rfl rfl ⟨(qb1 BK261.out 0).trans rfl, (qb1 BK261.out 1).trans rfl, (qb1 BK261.out 2).trans rfl, ((HB.out.cell (qbl w _ hw265_0)).trans hw265_0), ((HB.out.cell (qbl w _ hw266_0)).trans hw266_0), ((HB.out.cell (qbl w _ hw267_0)).trans hw267_0), ((HB.out.cell (qbl w _ hw268_0)).trans hw268_0), ((HB.out.cell (qbl w _ hw268_1)).trans hw268_1), ((HB.out.cell (qbl w _ hw268_2)).trans hw268_2), ((HB.out.cell (qbl w _ hw268_3)).trans hw268_3)⟩ (fun hHeld => ?_); refine with_tabW dataflowlaw28_VpathMatch.tab8 dataflowlaw28_VpathMatch.bits8 (fun HT_ HW_ => ?_)
             generalize wr.drew = w30 at HO_8 BK261 HB hx265_0 hx266_0 hx267_0 hx268_0 hx268_1 hx268_2 hx268_3 hHeld ⊢
             refine pure_ (i := 0) (N := some 38) (v := ?_) (a' := ?_) #[true, false, false, false, false, false, false, false, false, false, false, false, false, false, false, false, false, false, false, false, false, false, false, false, false, false, false, false] rfl rfl (any_of HT_.out (by kernel_rfl)) (fun _ _ _ h => h) (Or.inl ⟨by rfl, ?_⟩) ?_ ?_
             rotate_left
             ·intro w'
              go_simp
              with_reducible rfl
             rotate_left
             ·simp only [Act.put, qs1, qs2, qs3, i64_w, i32_w]
              rfl
             refine pure_ (i := 1) (N := some 39) (v := ?_) (a' := ?_) #[true, true, false, false, false, false, false, false, false, false, false, false, false, false, false, false, false, false, false, false, false, false, false, false, false, false, false, false] rfl rfl (any_of HT_.out (by kernel_rfl)) (fun _ _ _ h => h) (Or.inl ⟨by rfl, ?_⟩) ?_ ?_
             rotate_left
             ·intro w'
              go_simp
              with_reducible rfl
             rotate_left
             ·simp only [Act.put, qs1, qs2, qs3, i64_w, i32_w]
              rfl
             refine pure_ (i := 2) (N := some 40) (v := ?_) (a' := ?_) #[true, true, true, false, false, false, false, false, false, false, false, false, false, false, false, false, false, false, false, false, false, false, false, false, false, false, false, false] rfl rfl (any_of HT_.out (by kernel_rfl)) (fun _ _ _ h => h) (Or.inl ⟨by rfl, ?_⟩) ?_ ?_
             rotate_left
             ·intro w'
              go_simp
              with_reducible rfl
             rotate_left
             ·simp only [Act.put, qs1, qs2, qs3, i64_w, i32_w]
              rfl
             refine take_ (i := 3) (N := some 41) (v := ?_) (a' := ?_) #[true, true, true, true, false, false, false, false, false, false, false, false, false, false, false, false, false, false, false, false, false, false, false, false, false, false, false, false] rfl rfl (take_ofW HT_.out HW_.out (by kernel_rfl)) (fun _ _ _ h => h) (Or.inl ⟨by rfl, ?_⟩) hHeld ?_ ?_
             rotate_left
             ·rintro w' ⟨s0, s1, s2, s3, s4, s5, s6, s7, s8, s9⟩
              go_simp
              with_reducible rfl
             rotate_left
             ·simp only [Act.put, qs1, qs2, qs3, i64_w, i32_w]
              rfl
             refine pure_ (i := 4) (N := some 42) (v := ?_) (a' := ?_) #[true, true, true, true, true, false, false, false, false, false, false, false, false, false, false, false, false, false, false, false, false, false, false, false, false, false, false, false] rfl rfl (any_of HT_.out (by kernel_rfl)) (fun _ _ _ h => h) (Or.inl ⟨by rfl, ?_⟩) ?_ ?_
             rotate_left
             ·intro w'
              go_simp
              with_reducible rfl
             rotate_left
             ·simp only [Act.put, qs1, qs2, qs3, i64_w, i32_w]
              rfl
             refine pure_ (i := 5) (N := some 43) (v := ?_) (a' := ?_) #[true, true, true, true, true, true, false, false, false, false, false, false, false, false, false, false, false, false, false, false, false, false, false, false, false, false, false, false] rfl rfl (any_of HT_.out (by kernel_rfl)) (fun _ _ _ h => h) (Or.inl ⟨by rfl, ?_⟩) ?_ ?_
             rotate_left
             ·intro w'
              go_simp
              with_reducible rfl
             rotate_left
             ·simp only [Act.put, qs1, qs2, qs3, i64_w, i32_w]
              rfl
             refine pure_ (i := 6) (N := some 44) (v := ?_) (a' := ?_) #[true, true, true, true, true, true, true, false, false, false, false, false, false, false, false, false, false, false, false, false, false, false, false, false, false, false, false, false] rfl rfl (any_of HT_.out (by kernel_rfl)) (fun _ _ _ h => h) (Or.inl ⟨by rfl, ?_⟩) ?_ ?_
             rotate_left
             ·intro w'
              go_simp
              with_reducible rfl
             rotate_left
             ·simp only [Act.put, qs1, qs2, qs3, i64_w, i32_w]
              rfl
             refine pure_ (i := 7) (N := some 45) (v := ?_) (a' := ?_) #[true, true, true, true, true, true, true, true, false, false, false, false, false, false, false, false, false, false, false, false, false, false, false, false, false, false, false, false] rfl rfl (any_of HT_.out (by kernel_rfl)) (fun _ _ _ h => h) (Or.inl ⟨by rfl, ?_⟩) ?_ ?_
             rotate_left
             ·intro w'
              go_simp
              with_reducible rfl
             rotate_left
             ·simp only [Act.put, qs1, qs2, qs3, i64_w, i32_w]
              rfl
             refine pure_ (i := 8) (N := some 46) (v := ?_) (a' := ?_) #[true, true, true, true, true, true, true, true, true, false, false, false, false, false, false, false, false, false, false, false, false, false, false, false, false, false, false, false] rfl rfl (any_of HT_.out (by kernel_rfl)) (fun _ _ _ h => h) (Or.inl ⟨by rfl, ?_⟩) ?_ ?_
             rotate_left
             ·intro w'
              go_simp
              with_reducible rfl
             rotate_left
             ·simp only [Act.put, qs1, qs2, qs3, i64_w, i32_w]
              rfl
             refine pure_ (i := 10) (N := some 48) (v := ?_) (a' := ?_) #[true, true, true, true, true, true, true, true, true, false, true, false, false, false, false, false, false, false, false, false, false, false, false, false, false, false, false, false] rfl rfl (any_of HT_.out (by kernel_rfl)) (fun _ _ _ h => h) (Or.inl ⟨by rfl, ?_⟩) ?_ ?_
             rotate_left
             ·intro w'
              go_simp
              with_reducible rfl
             rotate_left
             ·simp only [Act.put, qs1, qs2, qs3, i64_w, i32_w]
              rfl
             refine take_ (i := 9) (N := some 47) (v := ?_) (a' := ?_) #[true, true, true, true, true, true, true, true, true, true, true, false, false, false, false, false, false, false, false, false, false, false, false, false, false, false, false, false] rfl rfl (take_ofW HT_.out HW_.out (by kernel_rfl)) (fun _ _ _ h => h) (Or.inl ⟨by rfl, ?_⟩) hHeld ?_ ?_
             rotate_left
             ·rintro w' ⟨s0, s1, s2, s3, s4, s5, s6, s7, s8, s9⟩
              go_simp
              with_reducible rfl
             rotate_left
             ·simp only [Act.put, qs1, qs2, qs3, i64_w, i32_w]
              rfl
             refine take_ (i := 11) (N := some 49) (v := ?_) (a' := ?_) #[true, true, true, true, true, true, true, true, true, true, true, true, false, false, false, false, false, false, false, false, false, false, false, false, false, false, false, false] rfl rfl (take_ofW HT_.out HW_.out (by kernel_rfl)) (fun _ _ _ h => h) (Or.inl ⟨by rfl, ?_⟩) hHeld ?_ ?_
             rotate_left
             ·rintro w' ⟨s0, s1, s2, s3, s4, s5, s6, s7, s8, s9⟩
              go_simp
              with_reducible rfl
             rotate_left
             ·simp only [Act.put, qs1, qs2, qs3, i64_w, i32_w]
              rfl
             refine pure_ (i := 12) (N := some 50) (v := ?_) (a' := ?_) #[true, true, true, true, true, true, true, true, true, true, true, true, true, false, false, false, false, false, false, false, false, false, false, false, false, false, false, false] rfl rfl (any_of HT_.out (by kernel_rfl)) (fun _ _ _ h => h) (Or.inl ⟨by rfl, ?_⟩) ?_ ?_
             rotate_left
             ·intro w'
              go_simp
              with_reducible rfl
             rotate_left
             ·simp only [Act.put, qs1, qs2, qs3, i64_w, i32_w]
              rfl
             refine pure_ (i := 13) (N := some 51) (v := ?_) (a' := ?_) #[true, true, true, true, true, true, true, true, true, true, true, true, true, true, false, false, false, false, false, false, false, false, false, false, false, false, false, false] rfl rfl (any_of HT_.out (by kernel_rfl)) (fun _ _ _ h => h) (Or.inl ⟨by rfl, ?_⟩) ?_ ?_
             rotate_left
             ·intro w'
              go_simp
              with_reducible rfl
             rotate_left
             ·simp only [Act.put, qs1, qs2, qs3, i64_w, i32_w]
              rfl
             refine pure_ (i := 14) (N := some 52) (v := ?_) (a' := ?_) #[true, true, true, true, true, true, true, true, true, true, true, true, true, true, true, false, false, false, false, false, false, false, false, false, false, false, false, false] rfl rfl (any_of HT_.out (by kernel_rfl)) (fun _ _ _ h => h) (Or.inl ⟨by rfl, ?_⟩) ?_ ?_
             rotate_left
             ·intro w'
              go_simp
              with_reducible rfl
             rotate_left
             ·simp only [Act.put, qs1, qs2, qs3, i64_w, i32_w]
              rfl
             refine pure_ (i := 15) (N := some 53) (v := ?_) (a' := ?_) #[true, true, true, true, true, true, true, true, true, true, true, true, true, true, true, true, false, false, false, false, false, false, false, false, false, false, false, false] rfl rfl (any_of HT_.out (by kernel_rfl)) (fun _ _ _ h => h) (Or.inl ⟨by rfl, ?_⟩) ?_ ?_
             rotate_left
             ·intro w'
              go_simp
              with_reducible rfl
             rotate_left
             ·simp only [Act.put, qs1, qs2, qs3, i64_w, i32_w]
              rfl
             refine pure_ (i := 16) (N := some 54) (v := ?_) (a' := ?_) #[true, true, true, true, true, true, true, true, true, true, true, true, true, true, true, true, true, false, false, false, false, false, false, false, false, false, false, false] rfl rfl (any_of HT_.out (by kernel_rfl)) (fun _ _ _ h => h) (Or.inl ⟨by rfl, ?_⟩) ?_ ?_
             rotate_left
             ·intro w'
              go_simp
              with_reducible rfl
             rotate_left
             ·simp only [Act.put, qs1, qs2, qs3, i64_w, i32_w]
              rfl
             refine pure_ (i := 18) (N := some 56) (v := ?_) (a' := ?_) #[true, true, true, true, true, true, true, true, true, true, true, true, true, true, true, true, true, false, true, false, false, false, false, false, false, false, false, false] rfl rfl (any_of HT_.out (by kernel_rfl)) (fun _ _ _ h => h) (Or.inl ⟨by rfl, ?_⟩) ?_ ?_
             rotate_left
             ·intro w'
              go_simp
              with_reducible rfl
             rotate_left
             ·simp only [Act.put, qs1, qs2, qs3, i64_w, i32_w]
              rfl
             refine pure_ (i := 19) (N := some 57) (v := ?_) (a' := ?_) #[true, true, true, true, true, true, true, true, true, true, true, true, true, true, true, true, true, false, true, true, false, false, false, false, false, false, false, false] rfl rfl (any_of HT_.out (by kernel_rfl)) (fun _ _ _ h => h) (Or.inl ⟨by rfl, ?_⟩) ?_ ?_
             rotate_left
             ·intro w'
              go_simp
              with_reducible rfl
             rotate_left
             ·simp only [Act.put, qs1, qs2, qs3, i64_w, i32_w]
              rfl
             refine pure_ (i := 20) (N := some 58) (v := ?_) (a' := ?_) #[true, true, true, true, true, true, true, true, true, true, true, true, true, true, true, true, true, false, true, true, true, false, false, false, false, false, false, false] rfl rfl (any_of HT_.out (by kernel_rfl)) (fun _ _ _ h => h) (Or.inl ⟨by rfl, ?_⟩) ?_ ?_
             rotate_left
             ·intro w'
              go_simp
              with_reducible rfl
             rotate_left
             ·simp only [Act.put, qs1, qs2, qs3, i64_w, i32_w]
              rfl
             refine pure_ (i := 25) (N := some 63) (v := ?_) (a' := ?_) #[true, true, true, true, true, true, true, true, true, true, true, true, true, true, true, true, true, false, true, true, true, false, false, false, false, true, false, false] rfl rfl (any_of HT_.out (by kernel_rfl)) (fun _ _ _ h => h) (Or.inl ⟨by rfl, ?_⟩) ?_ ?_
             rotate_left
             ·intro w'
              go_simp
              with_reducible rfl
             rotate_left
             ·simp only [Act.put, qs1, qs2, qs3, i64_w, i32_w]
              rfl
             refine take_ (i := 17) (N := some 55) (v := ?_) (a' := ?_) #[true, true, true, true, true, true, true, true, true, true, true, true, true, true, true, true, true, true, true, true, true, false, false, false, false, true, false, false] rfl rfl (take_ofW HT_.out HW_.out (by kernel_rfl)) (fun _ _ _ h => h) (Or.inl ⟨by rfl, ?_⟩) hHeld ?_ ?_
             rotate_left
             ·rintro w' ⟨s0, s1, s2, s3, s4, s5, s6, s7, s8, s9⟩
              go_simp
              with_reducible rfl
             rotate_left
             ·simp only [Act.put, qs1, qs2, qs3, i64_w, i32_w]
              rfl
             refine take_ (i := 21) (N := some 59) (v := ?_) (a' := ?_) #[true, true, true, true, true, true, true, true, true, true, true, true, true, true, true, true, true, true, true, true, true, true, false, false, false, true, false, false] rfl rfl (take_ofW HT_.out HW_.out (by kernel_rfl)) (fun _ _ _ h => h) (Or.inl ⟨by rfl, ?_⟩) hHeld ?_ ?_
             rotate_left
             ·rintro w' ⟨s0, s1, s2, s3, s4, s5, s6, s7, s8, s9⟩
              go_simp
              with_reducible rfl
             rotate_left
             ·simp only [Act.put, qs1, qs2, qs3, i64_w, i32_w]
              rfl
             refine pure_ (i := 22) (N := some 60) (v := ?_) (a' := ?_) #[true, true, true, true, true, true, true, true, true, true, true, true, true, true, true, true, true, true, true, true, true, true, true, false, false, true, false, false] rfl rfl (any_of HT_.out (by kernel_rfl)) (fun _ _ _ h => h) (Or.inl ⟨by rfl, ?_⟩) ?_ ?_
             rotate_left
             ·intro w'
              go_simp
              with_reducible rfl
             rotate_left
             ·simp only [Act.put, qs1, qs2, qs3, i64_w, i32_w]
              rfl
             refine pure_ (i := 23) (N := some 61) (v := ?_) (a' := ?_) #[true, true, true, true, true, true, true, true, true, true, true, true, true, true, true, true, true, true, true, true, true, true, true, true, false, true, false, false] rfl rfl (any_of HT_.out (by kernel_rfl)) (fun _ _ _ h => h) (Or.inl ⟨by rfl, ?_⟩) ?_ ?_
             rotate_left
             ·intro w'
              go_simp
              with_reducible rfl
             rotate_left
             ·simp only [Act.put, qs1, qs2, qs3, i64_w, i32_w]
              rfl
             refine take_ (i := 24) (N := some 62) (v := ?_) (a' := ?_) #[true, true, true, true, true, true, true, true, true, true, true, true, true, true, true, true, true, true, true, true, true, true, true, true, true, true, false, false] rfl rfl (take_ofW HT_.out HW_.out (by kernel_rfl)) (fun _ _ _ h => h) (Or.inl ⟨by rfl, ?_⟩) hHeld ?_ ?_
             rotate_left
             ·rintro w' ⟨s0, s1, s2, s3, s4, s5, s6, s7, s8, s9⟩
              go_simp
              with_reducible rfl
             rotate_left
             ·simp only [Act.put, qs1, qs2, qs3, i64_w, i32_w]
              rfl
             refine pure_ (i := 26) (N := some 64) (v := ?_) (a' := ?_) #[true, true, true, true, true, true, true, true, true, true, true, true, true, true, true, true, true, true, true, true, true, true, true, true, true, true, true, false] rfl rfl (any_of HT_.out (by kernel_rfl)) (fun _ _ _ h => h) (Or.inl ⟨by rfl, ?_⟩) ?_ ?_
             rotate_left
             ·intro w'
              go_simp
              with_reducible rfl
             rotate_left
             ·simp only [Act.put, qs1, qs2, qs3, i64_w, i32_w]
              rfl
             refine pure_ (i := 27) (N := some 65) (v := ?_) (a' := ?_) #[true, true, true, true, true, true, true, true, true, true, true, true, true, true, true, true, true, true, true, true, true, true, true, true, true, true, true, true] rfl rfl (any_of HT_.out (by kernel_rfl)) (fun _ _ _ h => h) (Or.inl ⟨by rfl, ?_⟩) ?_ ?_
             rotate_left
             ·intro w'
              go_simp
              with_reducible rfl
             rotate_left
             ·simp only [Act.put, qs1, qs2, qs3, i64_w, i32_w]
              rfl
             refine done_ (done_of HT_.out (by kernel_rfl)) ?_
             try go_wp2
             go_meet
             case rel => exact ⟨_, ((((rd_T32 l0_1 (rd l2 x9_2)).f0) != x7_2)), (by first | rfl | (simp; done) | (simp [*]; done)), H', ⟨by have := HJ3.out; have := HK2.out; first | omega | exact Nat.le_refl _⟩, ⟨by (with_reducible repeat (first | apply qk1 | apply qk2 | apply qk3)); exact HO_8.out⟩, ⟨by (with_reducible repeat (first | refine qb3 ?_ _ | refine qb5 ?_ | refine qb4 ?_ _)); exact BK261.out⟩, ⟨by repeat (first | (with_reducible first | exact HB.out | apply qw1 | apply qw2 | apply qw3 | refine qw4 ?_ GE261.out) | exact HB.out)⟩⟩
            ·rw [if_neg c29] at H
             exact absurd H (by simp)
           ·rw [if_neg c28] at H
            exact absurd H (by simp)
        ·rw [if_neg c23] at H
         exact absurd H (by simp)
       case rest => as_aux_lemma =>
        clear HC22
        try clear c2
        try clear p2
        try clear q2
        try clear hx2
        try clear c23
        try clear c24
        try clear c24b0
        try clear c26
        try clear c26b0
        try clear p26
        try clear q26
        try clear hx26
        try clear c28
        try clear c28b0
        try clear c29
        try clear c29b0
        try clear hx265_0
        try clear hx266_0
        try clear hx267_0
        try clear hx268_0
        try clear hx268_1
        try clear hx268_2
        try clear hx268_3
        try clear p265
        try clear p266
        try clear p267
        try clear p268
        try clear q265
        try clear q266
        try clear q267
        try clear q268
        obtain ⟨kq, x65_21, rfl, HA, HJ21, HO_8, BK261, HB⟩ := hcut
        cases kq with
        | zero => exact absurd HA.out (by simp [dataflowlaw28_VpathMatch.j2])
        | succ kj21 =>
         have H := HA.out
         clear HA
         simp only [dataflowlaw28_VpathMatch.j2] at H
         by_cases c31 : x65_21 = true
         ·subst c31
          have H1 : (some false) = some true := by rw [if_pos rfl] at H; exact H
          clear H
          have H := H1
          clear H1
          exact absurd H (by simp)
         ·replace c31 := Bool.eq_false_iff.mpr c31
          subst c31
          have H1 : (if 0 ≤ x9_2 then (if x9_2 < (l2.length : Int) then (if 0 ≤ (rd l2 x9_2) then (if (rd l2 x9_2) < (l0_1.length : Int) then (if ((rd_T32 l0_1 (rd l2 x9_2)).f2) = 2 then (if x8_2.length < 17592186044416 then (dataflowlaw28_VpathMatch.j4 kj21 a1 l2 ((rd_T32 l0_1 (rd l2 x9_2)).f1) (x8_2 ++ [(rd_T32 l0_1 (rd l2 x9_2)).f0]) x9_2 l0_0 l0_1 a0_2) else (none)) else (if ((rd_T32 l0_1 (rd l2 x9_2)).f2) = 3 then (dataflowlaw28_VpathMatch.j3 kj21 a1 l2 ((rd_T32 l0_1 (rd l2 x9_2)).f1) x8_2 x9_2 (((rd_T32 l0_1 (rd l2 x9_2)).f2) == 3) l0_0 l0_1 a0_2 ((rd_T32 l0_1 (rd l2 x9_2)).f0) ((rd_T32 l0_1 (rd l2 x9_2)).f1) ((rd_T32 l0_1 (rd l2 x9_2)).f2) ((rd_T32 l0_1 (rd l2 x9_2)).f3)) else (dataflowlaw28_VpathMatch.j3 kj21 a1 l2 ((rd_T32 l0_1 (rd l2 x9_2)).f1) x8_2 x9_2 (((rd_T32 l0_1 (rd l2 x9_2)).f2) == 4) l0_0 l0_1 a0_2 ((rd_T32 l0_1 (rd l2 x9_2)).f0) ((rd_T32 l0_1 (rd l2 x9_2)).f1) ((rd_T32 l0_1 (rd l2 x9_2)).f2) ((rd_T32 l0_1 (rd l2 x9_2)).f3)))) else (none)) else (none)) else (none)) else (none)) = some true := by rw [if_neg (show ¬ (false = true) by decide)] at H; exact H
          clear H
          have H := H1
          clear H1
          by_cases c32 : 0 ≤ x9_2
          ·rw [if_pos c32] at H
           have c32b0 : decide (0 ≤ x9_2) = true := decide_eq_true c32
           clear c32
           by_cases c33 : x9_2 < (l2.length : Int)
           ·rw [if_pos c33] at H
            have c33b0 : decide (x9_2 < (l2.length : Int)) = true := decide_eq_true c33
            clear c33
            by_cases c34 : 0 ≤ (rd l2 x9_2)
            ·rw [if_pos c34] at H
             have c34b0 : decide (0 ≤ (rd l2 x9_2)) = true := decide_eq_true c34
             clear c34
             by_cases c35 : (rd l2 x9_2) < (l0_1.length : Int)
             ·rw [if_pos c35] at H
              have c35b0 : decide ((rd l2 x9_2) < (l0_1.length : Int)) = true := decide_eq_true c35
              clear c35
              have HC36 := qam H
              clear H
              try go_wp2
              have n0_ := qam (qk3 HO_8.out)
              have n1_ := qam (qb5 BK261.out)
              have n2_ := qam (qw3 HB.out)
              clear HO_8
              clear BK261
              clear HB
              have HO_8 := n0_
              have BK261 := n1_
              have HB := n2_
              clear n0_ n1_ n2_
              have p269 : 0 ≤ (x9_2 : Int) := of_decide_eq_true (by first | (with_reducible assumption) | assumption)
              have q269 : x9_2 < (l2.length : Int) := of_decide_eq_true (by first | (with_reducible assumption) | assumption)
              obtain ⟨ad269, e269, hx269_0⟩ := Kd.at_int HR2.out x9_2 p269 q269
              have hw269_0 := hx269_0
              cases e269
              replace hx269_0 := (HB.out.cell (qbl w _ hx269_0)).trans hx269_0
              replace p269 := eq_true p269
              replace q269 := eq_true q269
              have p270 : 0 ≤ ((rd l2 x9_2) : Int) := of_decide_eq_true (by first | (with_reducible assumption) | assumption)
              have q270 : (rd l2 x9_2) < (l0_1.length : Int) := of_decide_eq_true (by first | (with_reducible assumption) | assumption)
              obtain ⟨ad270, e270, hx270_0, hx270_1, hx270_2, hx270_3⟩ := at_T32 HR0_1.out (rd l2 x9_2) p270 q270
              have hw270_3 := hx270_3
              have hw270_2 := hx270_2
              have hw270_1 := hx270_1
              have hw270_0 := hx270_0
              cases e270
              replace hx270_0 := (HB.out.cell (qbl w _ hx270_0)).trans hx270_0
              replace hx270_1 := (HB.out.cell (qbl w _ hx270_1)).trans hx270_1
              replace hx270_2 := (HB.out.cell (qbl w _ hx270_2)).trans hx270_2
              replace hx270_3 := (HB.out.cell (qbl w _ hx270_3)).trans hx270_3
              replace p270 := eq_true p270
              replace q270 := eq_true q270
              refine start_ (n := 10) (S := fun w' => w'.cell? ⟨gb261, 0, none⟩ = some (.slice A0_0 l0_0.length c0_0) ∧ w'.cell? ⟨gb261, 1, none⟩ = some (.slice (some ad270) l0_1.length c0_1) ∧ w'.cell? ⟨gb261, 2, none⟩ = some (.int .i64 a0_2) ∧ w'.cell? (ad269.add (x9_2).toNat) = some (.int .i64 (rd l2 x9_2)) ∧ w'.cell? (ad270.add (((rd l2 x9_2)).toNat * 4)) = some (.int .i64 ((rd_T32 l0_1 (rd l2 x9_2)).f0)) ∧ w'.cell? ⟨(ad270.add (((rd l2 x9_2)).toNat * 4)).block, (ad270.add (((rd l2 x9_2)).toNat * 4)).off + 1, none⟩ = some (.int .i64 ((rd_T32 l0_1 (rd l2 x9_2)).f1)) ∧ w'.cell? ⟨(ad270.add (((rd l2 x9_2)).toNat * 4)).block, (ad270.add (((rd l2 x9_2)).toNat * 4)).off + 2, none⟩ = some (.int .i64 ((rd_T32 l0_1 (rd l2 x9_2)).f2)) ∧ w'.cell? ⟨(ad270.add (((rd l2 x9_2)).toNat * 4)).block, (ad270.add (((rd l2 x9_2)).toNat * 4)).off + 3, none⟩ = some (.int .i64 ((rd_T32 l0_1 (rd l2 x9_2)).f3))) (ds := []) #[false, false, false, false, false, false, false, false, false, false] (by kernel_rfl) rfl rfl ⟨(qb1 BK261.out 0).trans rfl, (qb1 BK261.out 1).trans rfl, (qb1 BK261.out 2).trans rfl, ((HB.out.cell (qbl w _ hw269_0)).trans hw269_0), ((HB.out.cell (qbl w _ hw270_0)).trans hw270_0), ((HB.out.cell (qbl w _ hw270_1)).trans hw270_1), ((HB.out.cell (qbl w _ hw270_2)).trans hw270_2), ((HB.out.cell (qbl w _ hw270_3)).trans hw270_3)⟩ (fun hHeld => ?_); refine with_tabW dataflowlaw28_VpathMatch.tab10 dataflowlaw28_VpathMatch.bits10 (fun HT_ HW_ => ?_)
              generalize wc.drew = w37 at HO_8 BK261 HB hx269_0 hx270_0 hx270_1 hx270_2 hx270_3 hHeld ⊢
              refine pure_ (i := 0) (N := some 66) (v := ?_) (a' := ?_) #[true, false, false, false, false, false, false, false, false, false] rfl rfl (any_of HT_.out (by kernel_rfl)) (fun _ _ _ h => h) (Or.inl ⟨by rfl, ?_⟩) ?_ ?_
              rotate_left
              ·intro w'
               go_simp
               with_reducible rfl
              rotate_left
              ·simp only [Act.put, qs1, qs2, qs3, i64_w, i32_w]
               rfl
              refine pure_ (i := 2) (N := some 68) (v := ?_) (a' := ?_) #[true, false, true, false, false, false, false, false, false, false] rfl rfl (any_of HT_.out (by kernel_rfl)) (fun _ _ _ h => h) (Or.inl ⟨by rfl, ?_⟩) ?_ ?_
              rotate_left
              ·intro w'
               go_simp
               with_reducible rfl
              rotate_left
              ·simp only [Act.put, qs1, qs2, qs3, i64_w, i32_w]
               rfl
              refine pure_ (i := 3) (N := some 69) (v := ?_) (a' := ?_) #[true, false, true, true, false, false, false, false, false, false] rfl rfl (any_of HT_.out (by kernel_rfl)) (fun _ _ _ h => h) (Or.inl ⟨by rfl, ?_⟩) ?_ ?_
              rotate_left
              ·intro w'
               go_simp
               with_reducible rfl
              rotate_left
              ·simp only [Act.put, qs1, qs2, qs3, i64_w, i32_w]
               rfl
              refine pure_ (i := 4) (N := some 70) (v := ?_) (a' := ?_) #[true, false, true, true, true, false, false, false, false, false] rfl rfl (any_of HT_.out (by kernel_rfl)) (fun _ _ _ h => h) (Or.inl ⟨by rfl, ?_⟩) ?_ ?_
              rotate_left
              ·intro w'
               go_simp
               with_reducible rfl
              rotate_left
              ·simp only [Act.put, qs1, qs2, qs3, i64_w, i32_w]
               rfl
              refine take_ (i := 1) (N := some 67) (v := ?_) (a' := ?_) #[true, true, true, true, true, false, false, false, false, false] rfl rfl (take_ofW HT_.out HW_.out (by kernel_rfl)) (fun _ _ _ h => h) (Or.inl ⟨by rfl, ?_⟩) hHeld ?_ ?_
              rotate_left
              ·rintro w' ⟨s0, s1, s2, s3, s4, s5, s6, s7⟩
               go_simp
               with_reducible rfl
              rotate_left
              ·simp only [Act.put, qs1, qs2, qs3, i64_w, i32_w]
               rfl
              refine take_ (i := 5) (N := some 71) (v := ?_) (a' := ?_) #[true, true, true, true, true, true, false, false, false, false] rfl rfl (take_ofW HT_.out HW_.out (by kernel_rfl)) (fun _ _ _ h => h) (Or.inl ⟨by rfl, ?_⟩) hHeld ?_ ?_
              rotate_left
              ·rintro w' ⟨s0, s1, s2, s3, s4, s5, s6, s7⟩
               go_simp
               with_reducible rfl
              rotate_left
              ·simp only [Act.put, qs1, qs2, qs3, i64_w, i32_w]
               rfl
              refine pure_ (i := 6) (N := some 72) (v := ?_) (a' := ?_) #[true, true, true, true, true, true, true, false, false, false] rfl rfl (any_of HT_.out (by kernel_rfl)) (fun _ _ _ h => h) (Or.inl ⟨by rfl, ?_⟩) ?_ ?_
              rotate_left
              ·intro w'
               go_simp
               with_reducible rfl
              rotate_left
              ·simp only [Act.put, qs1, qs2, qs3, i64_w, i32_w]
               rfl
              refine take_ (i := 7) (N := some 73) (v := ?_) (a' := ?_) #[true, true, true, true, true, true, true, true, false, false] rfl rfl (take_ofW HT_.out HW_.out (by kernel_rfl)) (fun _ _ _ h => h) (Or.inl ⟨by rfl, ?_⟩) hHeld ?_ ?_
              rotate_left
              ·rintro w' ⟨s0, s1, s2, s3, s4, s5, s6, s7⟩
               go_simp
               with_reducible rfl
              rotate_left
              ·simp only [Act.put, qs1, qs2, qs3, i64_w, i32_w]
               rfl
              refine one_ (i := 8) (N := some 10) #[true, true, true, true, true, true, true, true, true, false] rfl rfl (one_of HT_.out (by kernel_rfl)) (by decide) (fun K hK => ?_)
              refine box_step ?hg (N := 10) ?hd (cs := #[.int .i64 0, .int .i64 0, .int .i64 0, .int .i64 0]) (t := 32) ?hr ?_; (case hd => rfl); (case hg => rfl); (case hr => first | (go_simp; done) | (go_simp; rfl))
              intro gb271 hg w38 hbox hb
              have n0_ := qam (Kd.R_below (by (with_reducible repeat (first | apply qk1 | apply qk2 | apply qk3)); exact HO_8.out) hb)
              have n1_ := qam (blk_below (g := gb261) (o := .cells #[.slice A0_0 l0_0.length c0_0, .slice (some ad270) l0_1.length c0_1, .int .i64 a0_2] 25 (0, 0)) (by (with_reducible repeat (first | refine qb3 ?_ _ | refine qb5 ?_ | refine qb4 ?_ _)); exact BK261.out) hb)
              have n2_ := qam (qw6 (by repeat (first | (with_reducible first | exact HB.out | apply qw1 | apply qw2 | apply qw3 | refine qw4 ?_ GE261.out) | exact HB.out)) hb)
              have n3_ := qam (hbox)
              have n4_ := qam ((by rw [hg]; exact (qw5 (by repeat (first | (with_reducible first | exact HB.out | apply qw1 | apply qw2 | apply qw3 | refine qw4 ?_ GE261.out) | exact HB.out))) : w.heap.size ≤ gb271))
              have n5_ := qam ((by rw [hg]; exact (qw5 (by repeat (first | (with_reducible first | exact HB.out | apply qw1 | apply qw2 | apply qw3 | refine qw4 ?_ GE261.out) | exact HB.out))) : w.heap.size ≤ gb271))
              have n6_ := qam ((by rw [hg]; exact qnn (blk_lt (g := gb261) (o := .cells #[.slice A0_0 l0_0.length c0_0, .slice (some ad270) l0_1.length c0_1, .int .i64 a0_2] 25 (0, 0)) (by (with_reducible repeat (first | refine qb3 ?_ _ | refine qb5 ?_ | refine qb4 ?_ _)); exact BK261.out)) : gb261 ≠ gb271))
              have n7_ := qam ((by rw [hg]; exact Nat.ne_of_gt (blk_lt (g := gb261) (o := .cells #[.slice A0_0 l0_0.length c0_0, .slice (some ad270) l0_1.length c0_1, .int .i64 a0_2] 25 (0, 0)) (by (with_reducible repeat (first | refine qb3 ?_ _ | refine qb5 ?_ | refine qb4 ?_ _)); exact BK261.out)) : gb271 ≠ gb261))
              clear HO_8
              clear BK261
              clear HB
              have HO_8 := n0_
              have BK261 := n1_
              have HB := n2_
              have BK271 := n3_
              have GW271 := n4_
              have GE271 := n5_
              have NB261_271 := n6_
              have NB271_261 := n7_
              clear n0_ n1_ n2_ n3_ n4_ n5_ n6_ n7_
              clear hb hbox hg
              refine hK.out _ _ ⟨(qb1 BK261.out 0).trans rfl, (qb1 BK261.out 1).trans rfl, (qb1 BK261.out 2).trans rfl, ((HB.out.cell (qbl w _ hw269_0)).trans hw269_0), ((HB.out.cell (qbl w _ hw270_0)).trans hw270_0), ((HB.out.cell (qbl w _ hw270_1)).trans hw270_1), ((HB.out.cell (qbl w _ hw270_2)).trans hw270_2), ((HB.out.cell (qbl w _ hw270_3)).trans hw270_3)⟩ (fun hHeld => ?_)
              clear hK K
              refine norm_ (a' := ?_) ?_ ?_
              rotate_left
              ·show Act.put _ (some 10) _ = _
               simp only [Act.put, qs1, qs2, qs3, i64_w, i32_w]
               rfl
              refine one_ (i := 9) (N := none) #[true, true, true, true, true, true, true, true, true, true] rfl rfl (one_of HT_.out (by kernel_rfl)) (by decide) (fun K hK => ?_)
              have hs39 : w38.cell? ⟨gb271, 0, none⟩ = some (.int .i64 0) := (qb1 BK271.out 0).trans rfl
              have hfs39 := qb2 BK271.out 0
              have hns39_0 := NB261_271.out
              have hms39_0 := NB271_261.out
              have hs40 : w38.cell? ⟨gb271, 1, none⟩ = some (.int .i64 0) := (qb1 BK271.out 1).trans rfl
              have hfs40 := qb2 BK271.out 1
              have hns40_0 := NB261_271.out
              have hms40_0 := NB271_261.out
              have hs41 : w38.cell? ⟨gb271, 2, none⟩ = some (.int .i64 0) := (qb1 BK271.out 2).trans rfl
              have hfs41 := qb2 BK271.out 2
              have hns41_0 := NB261_271.out
              have hms41_0 := NB271_261.out
              have hs42 : w38.cell? ⟨gb271, 3, none⟩ = some (.int .i64 0) := (qb1 BK271.out 3).trans rfl
              have hfs42 := qb2 BK271.out 3
              have hns42_0 := NB261_271.out
              have hms42_0 := NB271_261.out
              refine skip_ (w1 := ?_) (by rfl) rfl ?_ ?_
              rotate_left
              ·go_simp
               rfl
              refine hK.out _ _ ⟨((cell_far (p := ⟨gb271, _, none⟩) NB261_271.out _).trans (((cell_far (p := ⟨gb271, _, none⟩) NB261_271.out _).trans (((cell_far (p := ⟨gb271, _, none⟩) NB261_271.out _).trans (((cell_far (p := ⟨gb271, _, none⟩) NB261_271.out _).trans (hHeld.1)))))))), ((cell_far (p := ⟨gb271, _, none⟩) NB261_271.out _).trans (((cell_far (p := ⟨gb271, _, none⟩) NB261_271.out _).trans (((cell_far (p := ⟨gb271, _, none⟩) NB261_271.out _).trans (((cell_far (p := ⟨gb271, _, none⟩) NB261_271.out _).trans (hHeld.2.1)))))))), ((cell_far (p := ⟨gb271, _, none⟩) NB261_271.out _).trans (((cell_far (p := ⟨gb271, _, none⟩) NB261_271.out _).trans (((cell_far (p := ⟨gb271, _, none⟩) NB261_271.out _).trans (((cell_far (p := ⟨gb271, _, none⟩) NB261_271.out _).trans (hHeld.2.2.1)))))))), ((cell_far (p := ⟨gb271, _, none⟩) (by first | exact qnn (qnl (by have := qbl _ _ hw269_0; first | rwa [add_block] at this | exact this) GW271.out) | (rw [add_block]; exact qnn (qnl (by have := qbl _ _ hw269_0; first | rwa [add_block] at this | exact this) GW271.out)) | (show (Addr.add _ _).block ≠ _; rw [add_block]; exact qnn (qnl (by have := qbl _ _ hw269_0; first | rwa [add_block] at this | exact this) GW271.out)) | (dsimp only; exact qnn (qnl (by have := qbl _ _ hw269_0; first | rwa [add_block] at this | exact this) GW271.out))) _).trans (((cell_far (p := ⟨gb271, _, none⟩) (by first | exact qnn (qnl (by have := qbl _ _ hw269_0; first | rwa [add_block] at this | exact this) GW271.out) | (rw [add_block]; exact qnn (qnl (by have := qbl _ _ hw269_0; first | rwa [add_block] at this | exact this) GW271.out)) | (show (Addr.add _ _).block ≠ _; rw [add_block]; exact qnn (qnl (by have := qbl _ _ hw269_0; first | rwa [add_block] at this | exact this) GW271.out)) | (dsimp only; exact qnn (qnl (by have := qbl _ _ hw269_0; first | rwa [add_block] at this | exact this) GW271.out))) _).trans (((cell_far (p := ⟨gb271, _, none⟩) (by first | exact qnn (qnl (by have := qbl _ _ hw269_0; first | rwa [add_block] at this | exact this) GW271.out) | (rw [add_block]; exact qnn (qnl (by have := qbl _ _ hw269_0; first | rwa [add_block] at this | exact this) GW271.out)) | (show (Addr.add _ _).block ≠ _; rw [add_block]; exact qnn (qnl (by have := qbl _ _ hw269_0; first | rwa [add_block] at this | exact this) GW271.out)) | (dsimp only; exact qnn (qnl (by have := qbl _ _ hw269_0; first | rwa [add_block] at this | exact this) GW271.out))) _).trans (((cell_far (p := ⟨gb271, _, none⟩) (by first | exact qnn (qnl (by have := qbl _ _ hw269_0; first | rwa [add_block] at this | exact this) GW271.out) | (rw [add_block]; exact qnn (qnl (by have := qbl _ _ hw269_0; first | rwa [add_block] at this | exact this) GW271.out)) | (show (Addr.add _ _).block ≠ _; rw [add_block]; exact qnn (qnl (by have := qbl _ _ hw269_0; first | rwa [add_block] at this | exact this) GW271.out)) | (dsimp only; exact qnn (qnl (by have := qbl _ _ hw269_0; first | rwa [add_block] at this | exact this) GW271.out))) _).trans (hHeld.2.2.2.1)))))))), ((cell_far (p := ⟨gb271, _, none⟩) (by first | exact qnn (qnl (by have := qbl _ _ hw270_0; first | rwa [add_block] at this | exact this) GW271.out) | (rw [add_block]; exact qnn (qnl (by have := qbl _ _ hw270_0; first | rwa [add_block] at this | exact this) GW271.out)) | (show (Addr.add _ _).block ≠ _; rw [add_block]; exact qnn (qnl (by have := qbl _ _ hw270_0; first | rwa [add_block] at this | exact this) GW271.out)) | (dsimp only; exact qnn (qnl (by have := qbl _ _ hw270_0; first | rwa [add_block] at this | exact this) GW271.out))) _).trans (((cell_far (p := ⟨gb271, _, none⟩) (by first | exact qnn (qnl (by have := qbl _ _ hw270_0; first | rwa [add_block] at this | exact this) GW271.out) | (rw [add_block]; exact qnn (qnl (by have := qbl _ _ hw270_0; first | rwa [add_block] at this | exact this) GW271.out)) | (show (Addr.add _ _).block ≠ _; rw [add_block]; exact qnn (qnl (by have := qbl _ _ hw270_0; first | rwa [add_block] at this | exact this) GW271.out)) | (dsimp only; exact qnn (qnl (by have := qbl _ _ hw270_0; first | rwa [add_block] at this | exact this) GW271.out))) _).trans (((cell_far (p := ⟨gb271, _, none⟩) (by first | exact qnn (qnl (by have := qbl _ _ hw270_0; first | rwa [add_block] at this | exact this) GW271.out) | (rw [add_block]; exact qnn (qnl (by have := qbl _ _ hw270_0; first | rwa [add_block] at this | exact this) GW271.out)) | (show (Addr.add _ _).block ≠ _; rw [add_block]; exact qnn (qnl (by have := qbl _ _ hw270_0; first | rwa [add_block] at this | exact this) GW271.out)) | (dsimp only; exact qnn (qnl (by have := qbl _ _ hw270_0; first | rwa [add_block] at this | exact this) GW271.out))) _).trans (((cell_far (p := ⟨gb271, _, none⟩) (by first | exact qnn (qnl (by have := qbl _ _ hw270_0; first | rwa [add_block] at this | exact this) GW271.out) | (rw [add_block]; exact qnn (qnl (by have := qbl _ _ hw270_0; first | rwa [add_block] at this | exact this) GW271.out)) | (show (Addr.add _ _).block ≠ _; rw [add_block]; exact qnn (qnl (by have := qbl _ _ hw270_0; first | rwa [add_block] at this | exact this) GW271.out)) | (dsimp only; exact qnn (qnl (by have := qbl _ _ hw270_0; first | rwa [add_block] at this | exact this) GW271.out))) _).trans (hHeld.2.2.2.2.1)))))))), ((cell_far (p := ⟨gb271, _, none⟩) (by first | exact qnn (qnl (by have := qbl _ _ hw270_1; first | rwa [add_block] at this | exact this) GW271.out) | (rw [add_block]; exact qnn (qnl (by have := qbl _ _ hw270_1; first | rwa [add_block] at this | exact this) GW271.out)) | (show (Addr.add _ _).block ≠ _; rw [add_block]; exact qnn (qnl (by have := qbl _ _ hw270_1; first | rwa [add_block] at this | exact this) GW271.out)) | (dsimp only; exact qnn (qnl (by have := qbl _ _ hw270_1; first | rwa [add_block] at this | exact this) GW271.out))) _).trans (((cell_far (p := ⟨gb271, _, none⟩) (by first | exact qnn (qnl (by have := qbl _ _ hw270_1; first | rwa [add_block] at this | exact this) GW271.out) | (rw [add_block]; exact qnn (qnl (by have := qbl _ _ hw270_1; first | rwa [add_block] at this | exact this) GW271.out)) | (show (Addr.add _ _).block ≠ _; rw [add_block]; exact qnn (qnl (by have := qbl _ _ hw270_1; first | rwa [add_block] at this | exact this) GW271.out)) | (dsimp only; exact qnn (qnl (by have := qbl _ _ hw270_1; first | rwa [add_block] at this | exact this) GW271.out))) _).trans (((cell_far (p := ⟨gb271, _, none⟩) (by first | exact qnn (qnl (by have := qbl _ _ hw270_1; first | rwa [add_block] at this | exact this) GW271.out) | (rw [add_block]; exact qnn (qnl (by have := qbl _ _ hw270_1; first | rwa [add_block] at this | exact this) GW271.out)) | (show (Addr.add _ _).block ≠ _; rw [add_block]; exact qnn (qnl (by have := qbl _ _ hw270_1; first | rwa [add_block] at this | exact this) GW271.out)) | (dsimp only; exact qnn (qnl (by have := qbl _ _ hw270_1; first | rwa [add_block] at this | exact this) GW271.out))) _).trans (((cell_far (p := ⟨gb271, _, none⟩) (by first | exact qnn (qnl (by have := qbl _ _ hw270_1; first | rwa [add_block] at this | exact this) GW271.out) | (rw [add_block]; exact qnn (qnl (by have := qbl _ _ hw270_1; first | rwa [add_block] at this | exact this) GW271.out)) | (show (Addr.add _ _).block ≠ _; rw [add_block]; exact qnn (qnl (by have := qbl _ _ hw270_1; first | rwa [add_block] at this | exact this) GW271.out)) | (dsimp only; exact qnn (qnl (by have := qbl _ _ hw270_1; first | rwa [add_block] at this | exact this) GW271.out))) _).trans (hHeld.2.2.2.2.2.1)))))))), ((cell_far (p := ⟨gb271, _, none⟩) (by first | exact qnn (qnl (by have := qbl _ _ hw270_2; first | rwa [add_block] at this | exact this) GW271.out) | (rw [add_block]; exact qnn (qnl (by have := qbl _ _ hw270_2; first | rwa [add_block] at this | exact this) GW271.out)) | (show (Addr.add _ _).block ≠ _; rw [add_block]; exact qnn (qnl (by have := qbl _ _ hw270_2; first | rwa [add_block] at this | exact this) GW271.out)) | (dsimp only; exact qnn (qnl (by have := qbl _ _ hw270_2; first | rwa [add_block] at this | exact this) GW271.out))) _).trans (((cell_far (p := ⟨gb271, _, none⟩) (by first | exact qnn (qnl (by have := qbl _ _ hw270_2; first | rwa [add_block] at this | exact this) GW271.out) | (rw [add_block]; exact qnn (qnl (by have := qbl _ _ hw270_2; first | rwa [add_block] at this | exact this) GW271.out)) | (show (Addr.add _ _).block ≠ _; rw [add_block]; exact qnn (qnl (by have := qbl _ _ hw270_2; first | rwa [add_block] at this | exact this) GW271.out)) | (dsimp only; exact qnn (qnl (by have := qbl _ _ hw270_2; first | rwa [add_block] at this | exact this) GW271.out))) _).trans (((cell_far (p := ⟨gb271, _, none⟩) (by first | exact qnn (qnl (by have := qbl _ _ hw270_2; first | rwa [add_block] at this | exact this) GW271.out) | (rw [add_block]; exact qnn (qnl (by have := qbl _ _ hw270_2; first | rwa [add_block] at this | exact this) GW271.out)) | (show (Addr.add _ _).block ≠ _; rw [add_block]; exact qnn (qnl (by have := qbl _ _ hw270_2; first | rwa [add_block] at this | exact this) GW271.out)) | (dsimp only; exact qnn (qnl (by have := qbl _ _ hw270_2; first | rwa [add_block] at this | exact this) GW271.out))) _).trans (((cell_far (p := ⟨gb271, _, none⟩) (by first | exact qnn (qnl (by have := qbl _ _ hw270_2; first | rwa [add_block] at this | exact this) GW271.out) | (rw [add_block]; exact qnn (qnl (by have := qbl _ _ hw270_2; first | rwa [add_block] at this | exact this) GW271.out)) | (show (Addr.add _ _).block ≠ _; rw [add_block]; exact qnn (qnl (by have := qbl _ _ hw270_2; first | rwa [add_block] at this | exact this) GW271.out)) | (dsimp only; exact qnn (qnl (by have := qbl _ _ hw270_2; first | rwa [add_block] at this | exact this) GW271.out))) _).trans (hHeld.2.2.2.2.2.2.1)))))))), ((cell_far (p := ⟨gb271, _, none⟩) (by first | exact qnn (qnl (by have := qbl _ _ hw270_3; first | rwa [add_block] at this | exact this) GW271.out) | (rw [add_block]; exact qnn (qnl (by have := qbl _ _ hw270_3; first | rwa [add_block] at this | exact this) GW271.out)) | (show (Addr.add _ _).block ≠ _; rw [add_block]; exact qnn (qnl (by have := qbl _ _ hw270_3; first | rwa [add_block] at this | exact this) GW271.out)) | (dsimp only; exact qnn (qnl (by have := qbl _ _ hw270_3; first | rwa [add_block] at this | exact this) GW271.out))) _).trans (((cell_far (p := ⟨gb271, _, none⟩) (by first | exact qnn (qnl (by have := qbl _ _ hw270_3; first | rwa [add_block] at this | exact this) GW271.out) | (rw [add_block]; exact qnn (qnl (by have := qbl _ _ hw270_3; first | rwa [add_block] at this | exact this) GW271.out)) | (show (Addr.add _ _).block ≠ _; rw [add_block]; exact qnn (qnl (by have := qbl _ _ hw270_3; first | rwa [add_block] at this | exact this) GW271.out)) | (dsimp only; exact qnn (qnl (by have := qbl _ _ hw270_3; first | rwa [add_block] at this | exact this) GW271.out))) _).trans (((cell_far (p := ⟨gb271, _, none⟩) (by first | exact qnn (qnl (by have := qbl _ _ hw270_3; first | rwa [add_block] at this | exact this) GW271.out) | (rw [add_block]; exact qnn (qnl (by have := qbl _ _ hw270_3; first | rwa [add_block] at this | exact this) GW271.out)) | (show (Addr.add _ _).block ≠ _; rw [add_block]; exact qnn (qnl (by have := qbl _ _ hw270_3; first | rwa [add_block] at this | exact this) GW271.out)) | (dsimp only; exact qnn (qnl (by have := qbl _ _ hw270_3; first | rwa [add_block] at this | exact this) GW271.out))) _).trans (((cell_far (p := ⟨gb271, _, none⟩) (by first | exact qnn (qnl (by have := qbl _ _ hw270_3; first | rwa [add_block] at this | exact this) GW271.out) | (rw [add_block]; exact qnn (qnl (by have := qbl _ _ hw270_3; first | rwa [add_block] at this | exact this) GW271.out)) | (show (Addr.add _ _).block ≠ _; rw [add_block]; exact qnn (qnl (by have := qbl _ _ hw270_3; first | rwa [add_block] at this | exact this) GW271.out)) | (dsimp only; exact qnn (qnl (by have := qbl _ _ hw270_3; first | rwa [add_block] at this | exact this) GW271.out))) _).trans (hHeld.2.2.2.2.2.2.2))))))))⟩ (fun hHeld => ?_)
              clear hK K
              refine done_ (done_of HT_.out (by kernel_rfl)) ?_
              have hnb43 := NB271_261.out
              have hnc43 := NB261_271.out
              have hcz44_0 : w38.cell? ⟨gb271, 0, none⟩ = some (.int .i64 0) := (qb1 BK271.out 0).trans rfl
              have hcz44_1 : w38.cell? ⟨gb271, 1, none⟩ = some (.int .i64 0) := (qb1 BK271.out 1).trans rfl
              have hcz44_2 : w38.cell? ⟨gb271, 2, none⟩ = some (.int .i64 0) := (qb1 BK271.out 2).trans rfl
              have hcz44_3 : w38.cell? ⟨gb271, 3, none⟩ = some (.int .i64 0) := (qb1 BK271.out 3).trans rfl
              have hfz44_0 := qb2 BK271.out 0
              have hfz44_1 := qb2 BK271.out 1
              have hfz44_2 := qb2 BK271.out 2
              have hfz44_3 := qb2 BK271.out 3
              go_upto_block 2 with (fail)
              go_cut [8] (fun v8 wc => ∃ (kq : Nat) (x8_35 : List Int), Aside0 (dataflowlaw28_VpathMatch.j4 kq a1 l2 ((rd_T32 l0_1 (rd l2 x9_2)).f1) x8_35 x9_2 l0_0 l0_1 a0_2 = some true) ∧ Aside0 (kq ≤ kj21) ∧ Aside0 (Kd.R (Kd.int .i64) 3 wc w.heap.size (fun _ => True) v8 x8_35) ∧ Aside0 (wc.heap[gb261]? = some (.cells #[(.slice A0_0 l0_0.length c0_0), (.slice (some ad270) l0_1.length c0_1), .int .i64 a0_2] 25 (0, 0))) ∧ Aside0 (wc.heap[gb271]? = some (.cells #[.int .i64 ((rd_T32 l0_1 (rd l2 x9_2)).f0), .int .i64 ((rd_T32 l0_1 (rd l2 x9_2)).f1), .int .i64 ((rd_T32 l0_1 (rd l2 x9_2)).f2), .int .i64 ((rd_T32 l0_1 (rd l2 x9_2)).f3)] 32 (0, 0))) ∧ Aside0 (Below w.heap.size w wc))
              case first => as_aux_lemma =>
               have H := HC36.out
               clear HC36
               by_cases c45 : ((rd_T32 l0_1 (rd l2 x9_2)).f2) = 2
               ·rw [if_pos c45] at H
                have c45b0 : (((rd_T32 l0_1 (rd l2 x9_2)).f2) == 2) = true := beq_iff_eq.mpr c45
                have c45b1 : (((rd_T32 l0_1 (rd l2 x9_2)).f2) != 2) = false := bne_eq_false_iff_eq.mpr c45
                clear c45
                (first | rw [c45b0] | (simp only [i64_w, i32_w]; rw [c45b0]) | skip)
                by_cases c46 : x8_2.length < 17592186044416
                ·rw [if_pos c46] at H
                 have LMc46 := qam c46
                 clear c46
                 obtain ⟨y272, hy272⟩ : ∃ y_ : List Int, y_ = (x8_2 ++ [(rd_T32 l0_1 (rd l2 x9_2)).f0]) := ⟨_, rfl⟩
                 replace H : (dataflowlaw28_VpathMatch.j4 kj21 a1 l2 ((rd_T32 l0_1 (rd l2 x9_2)).f1) y272 x9_2 l0_0 l0_1 a0_2) = some true := by first | (rw [hy272]; with_reducible exact H) | (have H2_ := (Option.bind_some _ _).symm.trans H; rw [hy272]; with_reducible exact H2_) | (have H2_ := (Option.bind_some _ _).symm.trans H; with_reducible exact H2_) | with_reducible exact H | (rw [hy272]; exact H) | exact H
                 have Ny272 := qam hy272
                 clear hy272
                 have H' := qam H
                 clear H
                 have hnb47 := NB271_261.out
                 have hnc47 := NB261_271.out
                 have hcz48_0 : w38.cell? ⟨gb271, 0, none⟩ = some (.int .i64 0) := (qb1 BK271.out 0).trans rfl
                 have hcz48_1 : w38.cell? ⟨gb271, 1, none⟩ = some (.int .i64 0) := (qb1 BK271.out 1).trans rfl
                 have hcz48_2 : w38.cell? ⟨gb271, 2, none⟩ = some (.int .i64 0) := (qb1 BK271.out 2).trans rfl
                 have hcz48_3 : w38.cell? ⟨gb271, 3, none⟩ = some (.int .i64 0) := (qb1 BK271.out 3).trans rfl
                 have hfz48_0 := qb2 BK271.out 0
                 have hfz48_1 := qb2 BK271.out 1
                 have hfz48_2 := qb2 BK271.out 2
                 have hfz48_3 := qb2 BK271.out 3
                 go_wp2_with (first | ((with_reducible refine gate_builtin (b := .append) (xs := #[.tmp 80, .tmp 83]) rfl ?_); (try (refine gate_guard (by rfl) ?_; dsimp only)); at_builtin; refine Kd.R_append (Kd.int .i64) (w0 := w) w.heap.size rfl (.tmp 80) (.tmp 83) 26 3 (.int .i64 0) 8 rfl Try.underlying26 info3 rfl (by decide) (by omega) u8 x8_2 ((rd_T32 l0_1 (rd l2 x9_2)).f0) [.int .i64 ((rd_T32 l0_1 (rd l2 x9_2)).f0)] (fun _ => True) (fun _ => False) rfl (by first | (go_simp; done) | (go_simp; rfl)) ?aP (fun _ hk => hk.elim) ?aF ?aO ?aB ?aS ?aL ?_; (case aP => exact rfl); (case aB => exact (by repeat (first | (with_reducible first | exact HB.out | apply qw1 | apply qw2 | apply qw3 | refine qw4 ?_ GE261.out | refine qw4 ?_ GE271.out) | exact HB.out))); (case aF => exact (fun _ _ => trivial)); (case aO => exact (by (with_reducible repeat (first | apply qk1 | apply qk2 | apply qk3)); exact Kd.R_mono (Kd.R_far (p := ⟨gb271, 3, none⟩) (Kd.R_far (p := ⟨gb271, 2, none⟩) (Kd.R_far (p := ⟨gb271, 1, none⟩) (Kd.R_far (p := ⟨gb271, 0, none⟩) (Kd.R_types HO_8.out BK271.out (by decide)) (fun _ hk => hk.2) (.int .i64 ((rd_T32 l0_1 (rd l2 x9_2)).f0))) (fun _ hk => hk.2) (.int .i64 ((rd_T32 l0_1 (rd l2 x9_2)).f1))) (fun _ hk => hk.2) (.int .i64 ((rd_T32 l0_1 (rd l2 x9_2)).f2))) (fun _ hk => hk.2) (.int .i64 ((rd_T32 l0_1 (rd l2 x9_2)).f3))) (fun _ hk => trivial))); (case aS => exact (qw5 (by repeat (first | (with_reducible first | exact HB.out | apply qw1 | apply qw2 | apply qw3 | refine qw4 ?_ GE261.out | refine qw4 ?_ GE271.out) | exact HB.out)))); (case aL => have := LMc46.out; omega); intro v273 w49 ho hb hg hat; rw [← Ny272.out] at ho; have n0_ := qam (blk_grown (g := gb261) (o := .cells #[.slice A0_0 l0_0.length c0_0, .slice (some ad270) l0_1.length c0_1, .int .i64 a0_2] 25 (0, 0)) (by (with_reducible repeat (first | refine qb3 ?_ _ | refine qb5 ?_ | refine qb4 ?_ _)); refine blk_far ?_ NB261_271.out _; (with_reducible repeat (first | refine qb3 ?_ _ | refine qb5 ?_ | refine qb4 ?_ _)); refine blk_far ?_ NB261_271.out _; (with_reducible repeat (first | refine qb3 ?_ _ | refine qb5 ?_ | refine qb4 ?_ _)); refine blk_far ?_ NB261_271.out _; (with_reducible repeat (first | refine qb3 ?_ _ | refine qb5 ?_ | refine qb4 ?_ _)); refine blk_far ?_ NB261_271.out _; (with_reducible repeat (first | refine qb3 ?_ _ | refine qb5 ?_ | refine qb4 ?_ _)); exact BK261.out) hg (Kd.R_ne HO_8.out BK261.out (by decide))); have n1_ := qam (blk_grown (g := gb271) (o := .cells #[.int .i64 ((rd_T32 l0_1 (rd l2 x9_2)).f0), .int .i64 ((rd_T32 l0_1 (rd l2 x9_2)).f1), .int .i64 ((rd_T32 l0_1 (rd l2 x9_2)).f2), .int .i64 ((rd_T32 l0_1 (rd l2 x9_2)).f3)] 32 (0, 0)) (by (with_reducible repeat (first | refine qb3 ?_ _ | refine qb5 ?_ | refine qb4 ?_ _)); refine blk_put (cs := #[.int .i64 ((rd_T32 l0_1 (rd l2 x9_2)).f0), .int .i64 ((rd_T32 l0_1 (rd l2 x9_2)).f1), .int .i64 ((rd_T32 l0_1 (rd l2 x9_2)).f2), .int .i64 0]) ?_ 3 _ rfl; (with_reducible repeat (first | refine qb3 ?_ _ | refine qb5 ?_ | refine qb4 ?_ _)); refine blk_put (cs := #[.int .i64 ((rd_T32 l0_1 (rd l2 x9_2)).f0), .int .i64 ((rd_T32 l0_1 (rd l2 x9_2)).f1), .int .i64 0, .int .i64 0]) ?_ 2 _ rfl; (with_reducible repeat (first | refine qb3 ?_ _ | refine qb5 ?_ | refine qb4 ?_ _)); refine blk_put (cs := #[.int .i64 ((rd_T32 l0_1 (rd l2 x9_2)).f0), .int .i64 0, .int .i64 0, .int .i64 0]) ?_ 1 _ rfl; (with_reducible repeat (first | refine qb3 ?_ _ | refine qb5 ?_ | refine qb4 ?_ _)); refine blk_put (cs := #[.int .i64 0, .int .i64 0, .int .i64 0, .int .i64 0]) ?_ 0 _ rfl; (with_reducible repeat (first | refine qb3 ?_ _ | refine qb5 ?_ | refine qb4 ?_ _)); exact BK271.out) hg (Kd.R_ne HO_8.out BK271.out (by decide))); have n2_ := qam (hb); have n3_ := qam (ho); clear BK261; clear BK271; clear HB; clear HO_8; have BK261 := n0_; have BK271 := n1_; have HB := n2_; have HO274 := n3_; clear n0_ n1_ n2_ n3_; clear ho hb hg hat))
                 go_meet
                 case rel => exact ⟨_, (y272), H', ⟨by have := HJ3.out; have := HK2.out; have := HJ21.out; first | omega | exact Nat.le_refl _⟩, ⟨by (with_reducible repeat (first | apply qk1 | apply qk2 | apply qk3)); exact HO274.out⟩, ⟨by (with_reducible repeat (first | refine qb3 ?_ _ | refine qb5 ?_ | refine qb4 ?_ _)); exact BK261.out⟩, ⟨by (with_reducible repeat (first | refine qb3 ?_ _ | refine qb5 ?_ | refine qb4 ?_ _)); exact BK271.out⟩, ⟨by repeat (first | (with_reducible first | exact HB.out | apply qw1 | apply qw2 | apply qw3 | refine qw4 ?_ GE261.out | refine qw4 ?_ GE271.out) | exact HB.out)⟩⟩
                ·rw [if_neg c46] at H
                 exact absurd H (by simp)
               ·rw [if_neg c45] at H
                have c45b0 : (((rd_T32 l0_1 (rd l2 x9_2)).f2) == 2) = false := beq_eq_false_iff_ne.mpr c45
                have c45b1 : (((rd_T32 l0_1 (rd l2 x9_2)).f2) != 2) = true := bne_iff_ne.mpr c45
                (first | rw [c45b0] | (simp only [i64_w, i32_w]; rw [c45b0]) | skip)
                have HC50 := qam H
                clear H
                go_upto_if 85 with (fail)
                go_cut [85] (fun v85 wc => ∃ (kq : Nat) (x85_49 : Bool), v85 = .bool x85_49 ∧ Aside0 (dataflowlaw28_VpathMatch.j3 kq a1 l2 ((rd_T32 l0_1 (rd l2 x9_2)).f1) x8_2 x9_2 x85_49 l0_0 l0_1 a0_2 ((rd_T32 l0_1 (rd l2 x9_2)).f0) ((rd_T32 l0_1 (rd l2 x9_2)).f1) ((rd_T32 l0_1 (rd l2 x9_2)).f2) ((rd_T32 l0_1 (rd l2 x9_2)).f3) = some true) ∧ Aside0 (kq ≤ kj21) ∧ Aside0 (Kd.R (Kd.int .i64) 3 wc w.heap.size (fun _ => True) u8 x8_2) ∧ Aside0 (wc.heap[gb261]? = some (.cells #[(.slice A0_0 l0_0.length c0_0), (.slice (some ad270) l0_1.length c0_1), .int .i64 a0_2] 25 (0, 0))) ∧ Aside0 (wc.heap[gb271]? = some (.cells #[.int .i64 ((rd_T32 l0_1 (rd l2 x9_2)).f0), .int .i64 ((rd_T32 l0_1 (rd l2 x9_2)).f1), .int .i64 ((rd_T32 l0_1 (rd l2 x9_2)).f2), .int .i64 ((rd_T32 l0_1 (rd l2 x9_2)).f3)] 32 (0, 0))) ∧ Aside0 (Below w.heap.size w wc))
                case first => as_aux_lemma =>
                 have H := HC50.out
                 clear HC50
                 by_cases c51 : ((rd_T32 l0_1 (rd l2 x9_2)).f2) = 3
                 ·rw [if_pos c51] at H
                  have c51b0 : (((rd_T32 l0_1 (rd l2 x9_2)).f2) == 3) = true := beq_iff_eq.mpr c51
                  have c51b1 : (((rd_T32 l0_1 (rd l2 x9_2)).f2) != 3) = false := bne_eq_false_iff_eq.mpr c51
                  clear c51
                  (first | rw [c51b0] | (simp only [i64_w, i32_w]; rw [c51b0]) | skip)
                  have H' := qam H
                  clear H
                  go_wp2
                  go_meet
                  case rel => exact ⟨_, ((((rd_T32 l0_1 (rd l2 x9_2)).f2) == 3)), (by first | rfl | (simp; done) | (simp [*]; done)), H', ⟨by have := HJ3.out; have := HK2.out; have := HJ21.out; first | omega | exact Nat.le_refl _⟩, ⟨by (with_reducible repeat (first | apply qk1 | apply qk2 | apply qk3)); exact Kd.R_mono (Kd.R_far (p := ⟨gb271, 3, none⟩) (Kd.R_far (p := ⟨gb271, 2, none⟩) (Kd.R_far (p := ⟨gb271, 1, none⟩) (Kd.R_far (p := ⟨gb271, 0, none⟩) (Kd.R_types HO_8.out BK271.out (by decide)) (fun _ hk => hk.2) (.int .i64 ((rd_T32 l0_1 (rd l2 x9_2)).f0))) (fun _ hk => hk.2) (.int .i64 ((rd_T32 l0_1 (rd l2 x9_2)).f1))) (fun _ hk => hk.2) (.int .i64 ((rd_T32 l0_1 (rd l2 x9_2)).f2))) (fun _ hk => hk.2) (.int .i64 ((rd_T32 l0_1 (rd l2 x9_2)).f3))) (fun _ hk => trivial)⟩, ⟨by (with_reducible repeat (first | refine qb3 ?_ _ | refine qb5 ?_ | refine qb4 ?_ _)); refine blk_far ?_ NB261_271.out _; (with_reducible repeat (first | refine qb3 ?_ _ | refine qb5 ?_ | refine qb4 ?_ _)); refine blk_far ?_ NB261_271.out _; (with_reducible repeat (first | refine qb3 ?_ _ | refine qb5 ?_ | refine qb4 ?_ _)); refine blk_far ?_ NB261_271.out _; (with_reducible repeat (first | refine qb3 ?_ _ | refine qb5 ?_ | refine qb4 ?_ _)); refine blk_far ?_ NB261_271.out _; (with_reducible repeat (first | refine qb3 ?_ _ | refine qb5 ?_ | refine qb4 ?_ _)); exact BK261.out⟩, ⟨by (with_reducible repeat (first | refine qb3 ?_ _ | refine qb5 ?_ | refine qb4 ?_ _)); refine blk_put (cs := #[.int .i64 ((rd_T32 l0_1 (rd l2 x9_2)).f0), .int .i64 ((rd_T32 l0_1 (rd l2 x9_2)).f1), .int .i64 ((rd_T32 l0_1 (rd l2 x9_2)).f2), .int .i64 0]) ?_ 3 _ rfl; (with_reducible repeat (first | refine qb3 ?_ _ | refine qb5 ?_ | refine qb4 ?_ _)); refine blk_put (cs := #[.int .i64 ((rd_T32 l0_1 (rd l2 x9_2)).f0), .int .i64 ((rd_T32 l0_1 (rd l2 x9_2)).f1), .int .i64 0, .int .i64 0]) ?_ 2 _ rfl; (with_reducible repeat (first | refine qb3 ?_ _ | refine qb5 ?_ | refine qb4 ?_ _)); refine blk_put (cs := #[.int .i64 ((rd_T32 l0_1 (rd l2 x9_2)).f0), .int .i64 0, .int .i64 0, .int .i64 0]) ?_ 1 _ rfl; (with_reducible repeat (first | refine qb3 ?_ _ | refine qb5 ?_ | refine qb4 ?_ _)); refine blk_put (cs := #[.int .i64 0, .int .i64 0, .int .i64 0, .int .i64 0]) ?_ 0 _ rfl; (with_reducible repeat (first | refine qb3 ?_ _ | refine qb5 ?_ | refine qb4 ?_ _)); exact BK271.out⟩, ⟨by repeat (first | (with_reducible first | exact HB.out | apply qw1 | apply qw2 | apply qw3 | refine qw4 ?_ GE261.out | refine qw4 ?_ GE271.out) | exact HB.out)⟩⟩
                 ·rw [if_neg c51] at H
                  have c51b0 : (((rd_T32 l0_1 (rd l2 x9_2)).f2) == 3) = false := beq_eq_false_iff_ne.mpr c51
                  have c51b1 : (((rd_T32 l0_1 (rd l2 x9_2)).f2) != 3) = true := bne_iff_ne.mpr c51
                  (first | rw [c51b0] | (simp only [i64_w, i32_w]; rw [c51b0]) | skip)
                  have H' := qam H
                  clear H
                  go_wp2
                  go_meet
                  case rel => exact ⟨_, ((((rd_T32 l0_1 (rd l2 x9_2)).f2) == 4)), (by first | rfl | (simp; done) | (simp [*]; done)), H', ⟨by have := HJ3.out; have := HK2.out; have := HJ21.out; first | omega | exact Nat.le_refl _⟩, ⟨by (with_reducible repeat (first | apply qk1 | apply qk2 | apply qk3)); exact Kd.R_mono (Kd.R_far (p := ⟨gb271, 3, none⟩) (Kd.R_far (p := ⟨gb271, 2, none⟩) (Kd.R_far (p := ⟨gb271, 1, none⟩) (Kd.R_far (p := ⟨gb271, 0, none⟩) (Kd.R_types HO_8.out BK271.out (by decide)) (fun _ hk => hk.2) (.int .i64 ((rd_T32 l0_1 (rd l2 x9_2)).f0))) (fun _ hk => hk.2) (.int .i64 ((rd_T32 l0_1 (rd l2 x9_2)).f1))) (fun _ hk => hk.2) (.int .i64 ((rd_T32 l0_1 (rd l2 x9_2)).f2))) (fun _ hk => hk.2) (.int .i64 ((rd_T32 l0_1 (rd l2 x9_2)).f3))) (fun _ hk => trivial)⟩, ⟨by (with_reducible repeat (first | refine qb3 ?_ _ | refine qb5 ?_ | refine qb4 ?_ _)); refine blk_far ?_ NB261_271.out _; (with_reducible repeat (first | refine qb3 ?_ _ | refine qb5 ?_ | refine qb4 ?_ _)); refine blk_far ?_ NB261_271.out _; (with_reducible repeat (first | refine qb3 ?_ _ | refine qb5 ?_ | refine qb4 ?_ _)); refine blk_far ?_ NB261_271.out _; (with_reducible repeat (first | refine qb3 ?_ _ | refine qb5 ?_ | refine qb4 ?_ _)); refine blk_far ?_ NB261_271.out _; (with_reducible repeat (first | refine qb3 ?_ _ | refine qb5 ?_ | refine qb4 ?_ _)); exact BK261.out⟩, ⟨by (with_reducible repeat (first | refine qb3 ?_ _ | refine qb5 ?_ | refine qb4 ?_ _)); refine blk_put (cs := #[.int .i64 ((rd_T32 l0_1 (rd l2 x9_2)).f0), .int .i64 ((rd_T32 l0_1 (rd l2 x9_2)).f1), .int .i64 ((rd_T32 l0_1 (rd l2 x9_2)).f2), .int .i64 0]) ?_ 3 _ rfl; (with_reducible repeat (first | refine qb3 ?_ _ | refine qb5 ?_ | refine qb4 ?_ _)); refine blk_put (cs := #[.int .i64 ((rd_T32 l0_1 (rd l2 x9_2)).f0), .int .i64 ((rd_T32 l0_1 (rd l2 x9_2)).f1), .int .i64 0, .int .i64 0]) ?_ 2 _ rfl; (with_reducible repeat (first | refine qb3 ?_ _ | refine qb5 ?_ | refine qb4 ?_ _)); refine blk_put (cs := #[.int .i64 ((rd_T32 l0_1 (rd l2 x9_2)).f0), .int .i64 0, .int .i64 0, .int .i64 0]) ?_ 1 _ rfl; (with_reducible repeat (first | refine qb3 ?_ _ | refine qb5 ?_ | refine qb4 ?_ _)); refine blk_put (cs := #[.int .i64 0, .int .i64 0, .int .i64 0, .int .i64 0]) ?_ 0 _ rfl; (with_reducible repeat (first | refine qb3 ?_ _ | refine qb5 ?_ | refine qb4 ?_ _)); exact BK271.out⟩, ⟨by repeat (first | (with_reducible first | exact HB.out | apply qw1 | apply qw2 | apply qw3 | refine qw4 ?_ GE261.out | refine qw4 ?_ GE271.out) | exact HB.out)⟩⟩
                case rest => as_aux_lemma =>
                 clear HC50
                 try clear c2
                 try clear p2
                 try clear q2
                 try clear hx2
                 try clear c3
                 try clear c4
                 try clear c5
                 try clear c23
                 try clear c24
                 try clear c24b0
                 try clear c26
                 try clear c26b0
                 try clear p26
                 try clear q26
                 try clear hx26
                 try clear p27
                 try clear q27
                 try clear hx27
                 try clear c28
                 try clear c28b0
                 try clear c29
                 try clear c29b0
                 try clear c31
                 try clear c32
                 try clear c32b0
                 try clear c33
                 try clear c33b0
                 try clear c34
                 try clear c34b0
                 try clear c35
                 try clear c35b0
                 try clear c43
                 try clear c45
                 try clear c45b0
                 try clear c45b1
                 try clear c46
                 try clear c47
                 try clear c51
                 try clear c51b0
                 try clear c51b1
                 try clear hcz44_0
                 try clear hcz44_1
                 try clear hcz44_2
                 try clear hcz44_3
                 try clear hcz48_0
                 try clear hcz48_1
                 try clear hcz48_2
                 try clear hcz48_3
                 try clear hfz44_0
                 try clear hfz44_1
                 try clear hfz44_2
                 try clear hfz44_3
                 try clear hfz48_0
                 try clear hfz48_1
                 try clear hfz48_2
                 try clear hfz48_3
                 try clear hx265_0
                 try clear hx266_0
                 try clear hx267_0
                 try clear hx268_0
                 try clear hx268_1
                 try clear hx268_2
                 try clear hx268_3
                 try clear hx269_0
                 try clear hx270_0
                 try clear hx270_1
                 try clear hx270_2
                 try clear hx270_3
                 try clear p2
                 try clear p26
                 try clear p265
                 try clear p266
                 try clear p267
                 try clear p268
                 try clear p269
                 try clear p270
                 try clear q2
                 try clear q26
                 try clear q265
                 try clear q266
                 try clear q267
                 try clear q268
                 try clear q269
                 try clear q270
                 obtain ⟨kq, x85_49, rfl, HA, HJ49, HO_8, BK261, BK271, HB⟩ := hcut
                 cases kq with
                 | zero => exact absurd HA.out (by simp [dataflowlaw28_VpathMatch.j3])
                 | succ kj49 =>
                  have H := HA.out
                  clear HA
                  simp only [dataflowlaw28_VpathMatch.j3] at H
                  by_cases c52 : x85_49 = true
                  ·subst c52
                   have H1 : (if (x8_2.length : Int) = 0 then (some false) else (if 0 ≤ (wrap64 ((x8_2.length : Int) - 1)) then (if (wrap64 ((x8_2.length : Int) - 1)) < (x8_2.length : Int) then (if (rd x8_2 (wrap64 ((x8_2.length : Int) - 1))) = ((rd_T32 l0_1 (rd l2 x9_2)).f3) then (if (wrap64 ((x8_2.length : Int) - 1)) ≤ (x8_2.length : Int) then (dataflowlaw28_VpathMatch.j4 kj49 a1 l2 ((rd_T32 l0_1 (rd l2 x9_2)).f1) (x8_2.take ((wrap64 ((x8_2.length : Int) - 1)) : Int).toNat) x9_2 l0_0 l0_1 a0_2) else (none)) else (some false)) else (none)) else (none))) = some true := by rw [if_pos rfl] at H; exact H
                   clear H
                   have H := H1
                   clear H1
                   by_cases c53 : (x8_2.length : Int) = 0
                   ·rw [if_pos c53] at H
                    have c53b0 : ((x8_2.length : Int) == 0) = true := beq_iff_eq.mpr c53
                    have c53b1 : ((x8_2.length : Int) != 0) = false := bne_eq_false_iff_eq.mpr c53
                    clear c53
                    exact absurd H (by simp)
                   ·rw [if_neg c53] at H
                    have c53b0 : ((x8_2.length : Int) == 0) = false := beq_eq_false_iff_ne.mpr c53
                    have c53b1 : ((x8_2.length : Int) != 0) = true := bne_iff_ne.mpr c53
                    have c53b2 : ¬ (x8_2 = []) := fun h_ => c53 (by rw [h_]; rfl)
                    obtain ⟨ji56, hji56⟩ : ∃ j_ : Int, (wrap64 ((x8_2.length : Int) - 1)) = j_ := ⟨_, rfl⟩
                    replace H : (if 0 ≤ (ji56) then (if (ji56) < (x8_2.length : Int) then (if (rd x8_2 (ji56)) = ((rd_T32 l0_1 (rd l2 x9_2)).f3) then (if (ji56) ≤ (x8_2.length : Int) then (dataflowlaw28_VpathMatch.j4 kj49 a1 l2 ((rd_T32 l0_1 (rd l2 x9_2)).f1) (x8_2.take ((ji56) : Int).toNat) x9_2 l0_0 l0_1 a0_2) else (none)) else (some false)) else (none)) else (none)) = some true := by first | (rw [hji56] at H; exact H) | (simp only [hji56] at H ⊢; exact H)
                    have hji56w : (IntKind.i64.wrap ((x8_2.length : Int) - 1)) = ji56 := (i64_w _).trans hji56
                    by_cases c57 : 0 ≤ (ji56)
                    ·rw [if_pos c57] at H
                     have c57b0 : decide (0 ≤ (ji56)) = true := decide_eq_true c57
                     clear c57
                     by_cases c58 : (ji56) < (x8_2.length : Int)
                     ·rw [if_pos c58] at H
                      have c58b0 : decide ((ji56) < (x8_2.length : Int)) = true := decide_eq_true c58
                      clear c58
                      by_cases c59 : (rd x8_2 (ji56)) = ((rd_T32 l0_1 (rd l2 x9_2)).f3)
                      ·rw [if_pos c59] at H
                       have c59b0 : ((rd x8_2 (ji56)) == ((rd_T32 l0_1 (rd l2 x9_2)).f3)) = true := beq_iff_eq.mpr c59
                       have c59b1 : ((rd x8_2 (ji56)) != ((rd_T32 l0_1 (rd l2 x9_2)).f3)) = false := bne_eq_false_iff_eq.mpr c59
                       clear c59
                       by_cases c60 : (ji56) ≤ (x8_2.length : Int)
                       ·rw [if_pos c60] at H
                        have c60b0 := eq_true c60
                        have c60b1 : decide ((ji56) ≤ (x8_2.length : Int)) = true := decide_eq_true c60
                        clear c60
                        obtain ⟨y276, hy276⟩ : ∃ y_ : List Int, y_ = (x8_2.take ((ji56) : Int).toNat) := ⟨_, rfl⟩
                        replace H : (dataflowlaw28_VpathMatch.j4 kj49 a1 l2 ((rd_T32 l0_1 (rd l2 x9_2)).f1) y276 x9_2 l0_0 l0_1 a0_2) = some true := by first | (rw [hy276]; with_reducible exact H) | (have H2_ := (Option.bind_some _ _).symm.trans H; rw [hy276]; with_reducible exact H2_) | (have H2_ := (Option.bind_some _ _).symm.trans H; with_reducible exact H2_) | with_reducible exact H | (rw [hy276]; exact H) | exact H
                        have Ny276 := qam hy276
                        clear hy276
                        have H' := qam H
                        clear H
                        try go_wp2
                        have n0_ := qam (qk3 HO_8.out)
                        have n1_ := qam (qb5 BK261.out)
                        have n2_ := qam (qb5 BK271.out)
                        have n3_ := qam (qw3 HB.out)
                        clear HO_8
                        clear BK261
                        clear BK271
                        clear HB
                        have HO_8 := n0_
                        have BK261 := n1_
                        have BK271 := n2_
                        have HB := n3_
                        clear n0_ n1_ n2_ n3_
                        obtain ⟨Ao62, co62, eo62⟩ := Kd.R_slice HO_8.out
                        (first | subst eo62 | (injection eo62 with f1_ f2_ f3_; have f4_ := f1_.symm; have f5_ := f3_.symm; clear f1_ f2_ f3_; subst f4_; subst f5_))
                        have p275 : 0 ≤ ((ji56) : Int) := of_decide_eq_true (by first | (with_reducible assumption) | assumption)
                        have q275 : (ji56) < (x8_2.length : Int) := of_decide_eq_true (by first | (with_reducible assumption) | assumption)
                        obtain ⟨ad275, e275, hx275_0⟩ := Kd.at_int (Kd.R_reads' HO_8.out).2.2 (ji56) p275 q275
                        cases e275
                        replace p275 := eq_true p275
                        replace q275 := eq_true q275
                        refine start_ (n := 14) (S := fun w' => w'.cell? ⟨gb271, 0, none⟩ = some (.int .i64 ((rd_T32 l0_1 (rd l2 x9_2)).f0)) ∧ w'.cell? ⟨gb271, 1, none⟩ = some (.int .i64 ((rd_T32 l0_1 (rd l2 x9_2)).f1)) ∧ w'.cell? ⟨gb271, 2, none⟩ = some (.int .i64 ((rd_T32 l0_1 (rd l2 x9_2)).f2)) ∧ w'.cell? ⟨gb271, 3, none⟩ = some (.int .i64 ((rd_T32 l0_1 (rd l2 x9_2)).f3)) ∧ w'.cell? (ad275.add ((ji56)).toNat) = some (.int .i64 (rd x8_2 (ji56)))) (ds := []) #[false, false, false, false, false, false, false, false, false, false, false, false, false, false] (by kernel_rfl) rfl rfl ⟨(qb1 BK271.out 0).trans rfl, (qb1 BK271.out 1).trans rfl, (qb1 BK271.out 2).trans rfl, (qb1 BK271.out 3).trans rfl, hx275_0⟩ (fun hHeld => ?_); refine with_tabW dataflowlaw28_VpathMatch.tab17 dataflowlaw28_VpathMatch.bits17 (fun HT_ HW_ => ?_)
                        generalize wc.drew = w61 at HO_8 BK261 BK271 HB hx275_0 hHeld ⊢
                        refine pure_ (i := 0) (N := some 88) (v := ?_) (a' := ?_) #[true, false, false, false, false, false, false, false, false, false, false, false, false, false] rfl rfl (any_of HT_.out (by kernel_rfl)) (fun _ _ _ h => h) (Or.inl ⟨by rfl, ?_⟩) ?_ ?_
                        rotate_left
                        ·intro w'
                         go_simp
                         with_reducible rfl
                        rotate_left
                        ·simp only [Act.put, qs1, qs2, qs3, i64_w, i32_w]
                         rfl
                        refine pure_ (i := 1) (N := some 89) (v := ?_) (a' := ?_) #[true, true, false, false, false, false, false, false, false, false, false, false, false, false] rfl rfl (any_of HT_.out (by kernel_rfl)) (fun _ _ _ h => h) (Or.inl ⟨by rfl, ?_⟩) ?_ ?_
                        rotate_left
                        ·intro w'
                         go_simp
                         with_reducible rfl
                        rotate_left
                        ·simp only [Act.put, qs1, qs2, qs3, i64_w, i32_w]
                         rfl
                        refine pure_ (i := 2) (N := some 90) (v := ?_) (a' := ?_) #[true, true, true, false, false, false, false, false, false, false, false, false, false, false] rfl rfl (any_of HT_.out (by kernel_rfl)) (fun _ _ _ h => h) (Or.inl ⟨by rfl, ?_⟩) ?_ ?_
                        rotate_left
                        ·intro w'
                         go_simp
                         with_reducible rfl
                        rotate_left
                        ·simp only [Act.put, qs1, qs2, qs3, i64_w, i32_w]
                         rfl
                        refine pure_ (i := 3) (N := some 91) (v := ?_) (a' := ?_) #[true, true, true, true, false, false, false, false, false, false, false, false, false, false] rfl rfl (any_of HT_.out (by kernel_rfl)) (fun _ _ _ h => h) (Or.inl ⟨by rfl, ?_⟩) ?_ ?_
                        rotate_left
                        ·intro w'
                         go_simp
                         with_reducible rfl
                        rotate_left
                        ·simp only [Act.put, qs1, qs2, qs3, i64_w, i32_w]
                         rfl
                        refine pure_ (i := 4) (N := some 92) (v := ?_) (a' := ?_) #[true, true, true, true, true, false, false, false, false, false, false, false, false, false] rfl rfl (any_of HT_.out (by kernel_rfl)) (fun _ _ _ h => h) (Or.inl ⟨by rfl, ?_⟩) ?_ ?_
                        rotate_left
                        ·intro w'
                         go_simp
                         with_reducible rfl
                        rotate_left
                        ·simp only [Act.put, qs1, qs2, qs3, i64_w, i32_w]
                         rfl
                        refine pure_ (i := 5) (N := some 93) (v := ?_) (a' := ?_) #[true, true, true, true, true, true, false, false, false, false, false, false, false, false] rfl rfl (any_of HT_.out (by kernel_rfl)) (fun _ _ _ h => h) (Or.inl ⟨by rfl, ?_⟩) ?_ ?_
                        rotate_left
                        ·intro w'
                         go_simp
                         with_reducible rfl
                        rotate_left
                        ·simp only [Act.put, qs1, qs2, qs3, i64_w, i32_w]
                         rfl
                        refine pure_ (i := 6) (N := some 94) (v := ?_) (a' := ?_) #[true, true, true, true, true, true, true, false, false, false, false, false, false, false] rfl rfl (any_of HT_.out (by kernel_rfl)) (fun _ _ _ h => h) (Or.inl ⟨by rfl, ?_⟩) ?_ ?_
                        rotate_left
                        ·intro w'
                         go_simp
                         with_reducible rfl
                        rotate_left
                        ·simp only [Act.put, qs1, qs2, qs3, i64_w, i32_w]
                         rfl
                        refine pure_ (i := 7) (N := some 95) (v := ?_) (a' := ?_) #[true, true, true, true, true, true, true, true, false, false, false, false, false, false] rfl rfl (any_of HT_.out (by kernel_rfl)) (fun _ _ _ h => h) (Or.inl ⟨by rfl, ?_⟩) ?_ ?_
                        rotate_left
                        ·intro w'
                         go_simp
                         with_reducible rfl
                        rotate_left
                        ·simp only [Act.put, qs1, qs2, qs3, i64_w, i32_w]
                         rfl
                        refine pure_ (i := 8) (N := some 96) (v := ?_) (a' := ?_) #[true, true, true, true, true, true, true, true, true, false, false, false, false, false] rfl rfl (any_of HT_.out (by kernel_rfl)) (fun _ _ _ h => h) (Or.inl ⟨by rfl, ?_⟩) ?_ ?_
                        rotate_left
                        ·intro w'
                         go_simp
                         with_reducible rfl
                        rotate_left
                        ·simp only [Act.put, qs1, qs2, qs3, i64_w, i32_w]
                         rfl
                        refine pure_ (i := 10) (N := some 98) (v := ?_) (a' := ?_) #[true, true, true, true, true, true, true, true, true, false, true, false, false, false] rfl rfl (any_of HT_.out (by kernel_rfl)) (fun _ _ _ h => h) (Or.inl ⟨by rfl, ?_⟩) ?_ ?_
                        rotate_left
                        ·intro w'
                         go_simp
                         with_reducible rfl
                        rotate_left
                        ·simp only [Act.put, qs1, qs2, qs3, i64_w, i32_w]
                         rfl
                        refine take_ (i := 9) (N := some 97) (v := ?_) (a' := ?_) #[true, true, true, true, true, true, true, true, true, true, true, false, false, false] rfl rfl (take_ofW HT_.out HW_.out (by kernel_rfl)) (fun _ _ _ h => h) (Or.inl ⟨by rfl, ?_⟩) hHeld ?_ ?_
                        rotate_left
                        ·rintro w' ⟨s0, s1, s2, s3, s4⟩
                         go_simp
                         with_reducible rfl
                        rotate_left
                        ·simp only [Act.put, qs1, qs2, qs3, i64_w, i32_w]
                         rfl
                        refine take_ (i := 11) (N := some 99) (v := ?_) (a' := ?_) #[true, true, true, true, true, true, true, true, true, true, true, true, false, false] rfl rfl (take_ofW HT_.out HW_.out (by kernel_rfl)) (fun _ _ _ h => h) (Or.inl ⟨by rfl, ?_⟩) hHeld ?_ ?_
                        rotate_left
                        ·rintro w' ⟨s0, s1, s2, s3, s4⟩
                         go_simp
                         with_reducible rfl
                        rotate_left
                        ·simp only [Act.put, qs1, qs2, qs3, i64_w, i32_w]
                         rfl
                        refine pure_ (i := 12) (N := some 100) (v := ?_) (a' := ?_) #[true, true, true, true, true, true, true, true, true, true, true, true, true, false] rfl rfl (any_of HT_.out (by kernel_rfl)) (fun _ _ _ h => h) (Or.inl ⟨by rfl, ?_⟩) ?_ ?_
                        rotate_left
                        ·intro w'
                         go_simp
                         with_reducible rfl
                        rotate_left
                        ·simp only [Act.put, qs1, qs2, qs3, i64_w, i32_w]
                         rfl
                        refine pure_ (i := 13) (N := some 101) (v := ?_) (a' := ?_) #[true, true, true, true, true, true, true, true, true, true, true, true, true, true] rfl rfl (any_of HT_.out (by kernel_rfl)) (fun _ _ _ h => h) (Or.inl ⟨by rfl, ?_⟩) ?_ ?_
                        rotate_left
                        ·intro w'
                         go_simp
                         with_reducible rfl
                        rotate_left
                        ·simp only [Act.put, qs1, qs2, qs3, i64_w, i32_w]
                         rfl
                        refine done_ (done_of HT_.out (by kernel_rfl)) ?_
                        have q63 : ((ji56) : Int) ≤ ((x8_2.length : Int) : Int) := of_decide_eq_true (by first | (with_reducible assumption) | assumption)
                        obtain ⟨i063, hi063, _, hsz63, _⟩ := info_parts info3
                        have hcut63 := cut_to (P := Try.prog) 26 3 .i64 Try.underlying26 hi063 (some ad275) x8_2.length co62 (ji56) (of_decide_eq_true (by first | (with_reducible assumption) | assumption)) q63 (Kd.R_reads' HO_8.out).2.1
                        have hr63 := Kd.R_take (m := ((ji56) : Int).toNat) HO_8.out (by omega)
                        have hy63 : y276.length = ((ji56) : Int).toNat := (by rw [Ny276.out, List.length_take]; omega)
                        rw [← Ny276.out] at hr63
                        rw [← hy63] at hr63 hcut63
                        clear hy63 hi063 hsz63 HO_8
                        have HO278 := qam hr63
                        clear hr63
                        replace q63 := eq_true q63
                        try go_wp2
                        go_meet
                        case rel => exact ⟨_, (y276), H', ⟨by have := HJ3.out; have := HK2.out; have := HJ21.out; have := HJ49.out; first | omega | exact Nat.le_refl _⟩, ⟨by (with_reducible repeat (first | apply qk1 | apply qk2 | apply qk3)); exact HO278.out⟩, ⟨by (with_reducible repeat (first | refine qb3 ?_ _ | refine qb5 ?_ | refine qb4 ?_ _)); exact BK261.out⟩, ⟨by (with_reducible repeat (first | refine qb3 ?_ _ | refine qb5 ?_ | refine qb4 ?_ _)); exact BK271.out⟩, ⟨by repeat (first | (with_reducible first | exact HB.out | apply qw1 | apply qw2 | apply qw3 | refine qw4 ?_ GE261.out | refine qw4 ?_ GE271.out) | exact HB.out)⟩⟩
                       ·rw [if_neg c60] at H
                        exact absurd H (by simp)
                      ·rw [if_neg c59] at H
                       have c59b0 : ((rd x8_2 (ji56)) == ((rd_T32 l0_1 (rd l2 x9_2)).f3)) = false := beq_eq_false_iff_ne.mpr c59
                       have c59b1 : ((rd x8_2 (ji56)) != ((rd_T32 l0_1 (rd l2 x9_2)).f3)) = true := bne_iff_ne.mpr c59
                       exact absurd H (by simp)
                     ·rw [if_neg c58] at H
                      exact absurd H (by simp)
                    ·rw [if_neg c57] at H
                     exact absurd H (by simp)
                  ·replace c52 := Bool.eq_false_iff.mpr c52
                   subst c52
                   have H1 : (dataflowlaw28_VpathMatch.j4 kj49 a1 l2 ((rd_T32 l0_1 (rd l2 x9_2)).f1) x8_2 x9_2 l0_0 l0_1 a0_2) = some true := by rw [if_neg (show ¬ (false = true) by decide)] at H; exact H
                   clear H
                   have H := H1
                   clear H1
                   have H' := qam H
                   clear H
                   go_wp2
                   go_meet
                   case rel => exact ⟨_, (x8_2), H', ⟨by have := HJ3.out; have := HK2.out; have := HJ21.out; have := HJ49.out; first | omega | exact Nat.le_refl _⟩, ⟨by (with_reducible repeat (first | apply qk1 | apply qk2 | apply qk3)); exact HO_8.out⟩, ⟨by (with_reducible repeat (first | refine qb3 ?_ _ | refine qb5 ?_ | refine qb4 ?_ _)); exact BK261.out⟩, ⟨by (with_reducible repeat (first | refine qb3 ?_ _ | refine qb5 ?_ | refine qb4 ?_ _)); exact BK271.out⟩, ⟨by repeat (first | (with_reducible first | exact HB.out | apply qw1 | apply qw2 | apply qw3 | refine qw4 ?_ GE261.out | refine qw4 ?_ GE271.out) | exact HB.out)⟩⟩
              case rest => as_aux_lemma =>
               clear HC36
               try clear c2
               try clear p2
               try clear q2
               try clear hx2
               try clear c3
               try clear c4
               try clear c5
               try clear c6
               try clear p6
               try clear q6
               try clear c23
               try clear c24
               try clear c24b0
               try clear c26
               try clear c26b0
               try clear p26
               try clear q26
               try clear hx26
               try clear p27
               try clear q27
               try clear hx27
               try clear c28
               try clear c28b0
               try clear c29
               try clear c29b0
               try clear c31
               try clear c32
               try clear c32b0
               try clear c33
               try clear c33b0
               try clear c34
               try clear c34b0
               try clear c35
               try clear c35b0
               try clear c43
               try clear c45
               try clear c45b0
               try clear c45b1
               try clear c46
               try clear c47
               try clear c51
               try clear c51b0
               try clear c51b1
               try clear c52
               try clear c53
               try clear c53b0
               try clear c53b1
               try clear c53b2
               try clear c57
               try clear c57b0
               try clear c58
               try clear c58b0
               try clear c59
               try clear c59b0
               try clear c59b1
               try clear c60
               try clear c60b0
               try clear c60b1
               try clear q63
               try clear p64
               try clear hcz44_0
               try clear hcz44_1
               try clear hcz44_2
               try clear hcz44_3
               try clear hcz48_0
               try clear hcz48_1
               try clear hcz48_2
               try clear hcz48_3
               try clear hfz44_0
               try clear hfz44_1
               try clear hfz44_2
               try clear hfz44_3
               try clear hfz48_0
               try clear hfz48_1
               try clear hfz48_2
               try clear hfz48_3
               try clear hx265_0
               try clear hx266_0
               try clear hx267_0
               try clear hx268_0
               try clear hx268_1
               try clear hx268_2
               try clear hx268_3
               try clear hx269_0
               try clear hx270_0
               try clear hx270_1
               try clear hx270_2
               try clear hx270_3
               try clear hx275_0
               try clear p2
               try clear p26
               try clear p265
               try clear p266
               try clear p267
               try clear p268
               try clear p269
               try clear p27
               try clear p270
               try clear p275
               try clear q2
               try clear q26
               try clear q265
               try clear q266
               try clear q267
               try clear q268
               try clear q269
               try clear q27
               try clear q270
               try clear q275
               try clear q63
               obtain ⟨kq, x8_35, HA, HJ35, HO_8, BK261, BK271, HB⟩ := hcut
               cases kq with
               | zero => exact absurd HA.out (by simp [dataflowlaw28_VpathMatch.j4])
               | succ kj35 =>
                have H := HA.out
                clear HA
                simp only [dataflowlaw28_VpathMatch.j4] at H
                have HC66 := qam H
                clear H
                go_upto_region 20 with (fail)
                go_cut [127] (fun v127 wc => ∃ (kq : Nat) (x127_65 : Bool), v127 = .bool x127_65 ∧ Aside0 (dataflowlaw28_VpathMatch.j5 kq a1 l2 ((rd_T32 l0_1 (rd l2 x9_2)).f1) x8_35 x9_2 x127_65 l0_0 l0_1 a0_2 = some true) ∧ Aside0 (kq ≤ kj35) ∧ Aside0 (Kd.R (Kd.int .i64) 3 wc w.heap.size (fun _ => True) u8 x8_35) ∧ Aside0 (wc.heap[gb261]? = some (.cells #[(.slice A0_0 l0_0.length c0_0), (.slice (some ad270) l0_1.length c0_1), .int .i64 a0_2] 25 (0, 0))) ∧ Aside0 (wc.heap[gb271]? = some (.cells #[.int .i64 ((rd_T32 l0_1 (rd l2 x9_2)).f0), .int .i64 ((rd_T32 l0_1 (rd l2 x9_2)).f1), .int .i64 ((rd_T32 l0_1 (rd l2 x9_2)).f2), .int .i64 ((rd_T32 l0_1 (rd l2 x9_2)).f3)] 32 (0, 0))) ∧ Aside0 (Below w.heap.size w wc))
                case first => as_aux_lemma =>
                 have H := HC66.out
                 clear HC66
                 obtain ⟨ji67, hji67⟩ : ∃ j_ : Int, (wrap64 (x9_2 + 1)) = j_ := ⟨_, rfl⟩
                 replace H : (if 0 ≤ (ji67) then (if (ji67) ≤ (l2.length : Int) then ((vpath_Check.f kj35 l0_0 l0_1 a0_2 a1 (l2.take ((ji67) : Int).toNat)).bind fun t280 => (if t280 = 0 then ((vpath_Balanced.f kj35 l0_0 l0_1 a0_2 a1 (l2.take ((ji67) : Int).toNat)).bind fun t282 => (dataflowlaw28_VpathMatch.j5 kj35 a1 l2 ((rd_T32 l0_1 (rd l2 x9_2)).f1) x8_35 x9_2 (t282 != ((x8_35.length : Int) == 0)) l0_0 l0_1 a0_2)) else (dataflowlaw28_VpathMatch.j5 kj35 a1 l2 ((rd_T32 l0_1 (rd l2 x9_2)).f1) x8_35 x9_2 true l0_0 l0_1 a0_2))) else (none)) else (none)) = some true := by first | (rw [hji67] at H; exact H) | (simp only [hji67] at H ⊢; exact H)
                 have hji67w : (IntKind.i64.wrap (x9_2 + 1)) = ji67 := (i64_w _).trans hji67
                 by_cases c68 : 0 ≤ (ji67)
                 ·rw [if_pos c68] at H
                  have c68b0 := eq_true c68
                  have c68b1 : decide (0 ≤ (ji67)) = true := decide_eq_true c68
                  clear c68
                  by_cases c69 : (ji67) ≤ (l2.length : Int)
                  ·rw [if_pos c69] at H
                   have c69b0 := eq_true c69
                   have c69b1 : decide ((ji67) ≤ (l2.length : Int)) = true := decide_eq_true c69
                   clear c69
                   replace H := Option.bind_eq_some_iff.mp H
                   obtain ⟨t280, A700, H⟩ := H
                   replace H : (if t280 = 0 then ((vpath_Balanced.f kj35 l0_0 l0_1 a0_2 a1 (l2.take ((ji67) : Int).toNat)).bind fun t282 => (dataflowlaw28_VpathMatch.j5 kj35 a1 l2 ((rd_T32 l0_1 (rd l2 x9_2)).f1) x8_35 x9_2 (t282 != ((x8_35.length : Int) == 0)) l0_0 l0_1 a0_2)) else (dataflowlaw28_VpathMatch.j5 kj35 a1 l2 ((rd_T32 l0_1 (rd l2 x9_2)).f1) x8_35 x9_2 true l0_0 l0_1 a0_2)) = some true := H
                   have A70 := qam A700
                   clear A700
                   by_cases c71 : t280 = 0
                   ·rw [if_pos c71] at H
                    have c71b0 : (t280 == 0) = true := beq_iff_eq.mpr c71
                    have c71b1 : (t280 != 0) = false := bne_eq_false_iff_eq.mpr c71
                    clear c71
                    (first | rw [c71b0] | (simp only [i64_w, i32_w]; rw [c71b0]) | skip)
                    have c72b0 := eq_true (of_decide_eq_true (by first | (with_reducible assumption) | assumption) : 0 ≤ (ji67))
                    have c73b0 := eq_true (of_decide_eq_true (by first | (with_reducible assumption) | assumption) : (ji67) ≤ (l2.length : Int))
                    replace H := Option.bind_eq_some_iff.mp H
                    obtain ⟨t282, A740, H⟩ := H
                    replace H : (dataflowlaw28_VpathMatch.j5 kj35 a1 l2 ((rd_T32 l0_1 (rd l2 x9_2)).f1) x8_35 x9_2 (t282 != ((x8_35.length : Int) == 0)) l0_0 l0_1 a0_2) = some true := H
                    have A74 := qam A740
                    clear A740
                    have H' := qam H
                    clear H
                    try go_wp2
                    have n0_ := qam (qk3 HO_8.out)
                    have n1_ := qam (qb5 BK261.out)
                    have n2_ := qam (qb5 BK271.out)
                    have n3_ := qam (qw3 HB.out)
                    clear HO_8
                    clear BK261
                    clear BK271
                    clear HB
                    have HO_8 := n0_
                    have BK261 := n1_
                    have BK271 := n2_
                    have HB := n3_
                    clear n0_ n1_ n2_ n3_
                    obtain ⟨i076, hi076, _, hsz76, _⟩ := info_parts info3
                    obtain ⟨hcut76, hA76, hC76⟩ := print_take_of (P := Try.prog) (Value.int .i64) 0 26 3 .i64 Try.underlying26 hi076 hsz76 (some ad269) c2 l2 (ji67) (of_decide_eq_true (by first | (with_reducible assumption) | assumption)) (of_decide_eq_true (by first | (with_reducible assumption) | assumption)) HC2.out
                    have HR279 := qam (Kd.C_of_reads (h1 := fun _ => rfl) (hA76 _ (Kd.reads_of_C HR2.out)))
                    have HC279 := qam hC76
                    clear hA76 hC76 hi076 hsz76
                    refine start_ (n := 21) (S := fun w' => w'.cell? ⟨gb261, 0, none⟩ = some (.slice A0_0 l0_0.length c0_0) ∧ w'.cell? ⟨gb261, 1, none⟩ = some (.slice (some ad270) l0_1.length c0_1) ∧ w'.cell? ⟨gb261, 2, none⟩ = some (.int .i64 a0_2)) (ds := []) #[false, false, false, false, false, false, false, false, false, false, false, false, false, false, false, false, false, false, false, false, false] (by kernel_rfl) rfl rfl ⟨(qb1 BK261.out 0).trans rfl, (qb1 BK261.out 1).trans rfl, (qb1 BK261.out 2).trans rfl⟩ (fun hHeld => ?_); refine with_tabW dataflowlaw28_VpathMatch.tab20 dataflowlaw28_VpathMatch.bits20 (fun HT_ HW_ => ?_)
                    generalize wc.drew = w75 at HO_8 BK261 BK271 HB HR279 hHeld ⊢
                    refine pure_ (i := 1) (N := some 108) (v := ?_) (a' := ?_) #[false, true, false, false, false, false, false, false, false, false, false, false, false, false, false, false, false, false, false, false, false] rfl rfl (any_of HT_.out (by kernel_rfl)) (fun _ _ _ h => h) (Or.inl ⟨by rfl, ?_⟩) ?_ ?_
                    rotate_left
                    ·intro w'
                     go_simp
                     with_reducible rfl
                    rotate_left
                    ·simp only [Act.put, qs1, qs2, qs3, i64_w, i32_w]
                     rfl
                    refine pure_ (i := 2) (N := some 109) (v := ?_) (a' := ?_) #[false, true, true, false, false, false, false, false, false, false, false, false, false, false, false, false, false, false, false, false, false] rfl rfl (any_of HT_.out (by kernel_rfl)) (fun _ _ _ h => h) (Or.inl ⟨by rfl, ?_⟩) ?_ ?_
                    rotate_left
                    ·intro w'
                     go_simp
                     with_reducible rfl
                    rotate_left
                    ·simp only [Act.put, qs1, qs2, qs3, i64_w, i32_w]
                     rfl
                    refine pure_ (i := 3) (N := some 110) (v := ?_) (a' := ?_) #[false, true, true, true, false, false, false, false, false, false, false, false, false, false, false, false, false, false, false, false, false] rfl rfl (any_of HT_.out (by kernel_rfl)) (fun _ _ _ h => h) (Or.inl ⟨by rfl, ?_⟩) ?_ ?_
                    rotate_left
                    ·intro w'
                     go_simp
                     with_reducible rfl
                    rotate_left
                    ·simp only [Act.put, qs1, qs2, qs3, i64_w, i32_w]
                     rfl
                    refine pure_ (i := 4) (N := some 111) (v := ?_) (a' := ?_) #[false, true, true, true, true, false, false, false, false, false, false, false, false, false, false, false, false, false, false, false, false] rfl rfl (any_of HT_.out (by kernel_rfl)) (fun _ _ _ h => h) (Or.inl ⟨by rfl, ?_⟩) ?_ ?_
                    rotate_left
                    ·intro w'
                     go_simp
                     with_reducible rfl
                    rotate_left
                    ·simp only [Act.put, qs1, qs2, qs3, i64_w, i32_w]
                     rfl
                    refine pure_ (i := 5) (N := some 112) (v := ?_) (a' := ?_) #[false, true, true, true, true, true, false, false, false, false, false, false, false, false, false, false, false, false, false, false, false] rfl rfl (any_of HT_.out (by kernel_rfl)) (fun _ _ _ h => h) (Or.inl ⟨by rfl, ?_⟩) ?_ ?_
                    rotate_left
                    ·intro w'
                     go_simp
                     with_reducible rfl
                    rotate_left
                    ·simp only [Act.put, qs1, qs2, qs3, i64_w, i32_w]
                     rfl
                    refine take_ (i := 0) (N := some 107) (v := ?_) (a' := ?_) #[true, true, true, true, true, true, false, false, false, false, false, false, false, false, false, false, false, false, false, false, false] rfl rfl (take_ofW HT_.out HW_.out (by kernel_rfl)) (fun _ _ _ h => h) (Or.inl ⟨by rfl, ?_⟩) hHeld ?_ ?_
                    rotate_left
                    ·rintro w' ⟨s0, s1, s2⟩
                     go_simp
                     with_reducible rfl
                    rotate_left
                    ·simp only [Act.put, qs1, qs2, qs3, i64_w, i32_w]
                     rfl
                    refine one_ (i := 6) (N := some 113) #[true, true, true, true, true, true, true, false, false, false, false, false, false, false, false, false, false, false, false, false, false] rfl rfl (one_of HT_.out (by kernel_rfl)) (by decide) (fun K hK => ?_)
                    refine goes_ Try.func15 (by kernel_rfl) rfl #[.agg #[.slice A0_0 l0_0.length c0_0, .slice (some ad270) l0_1.length c0_1, .int .i64 a0_2], .int .i64 a1, .slice (some ad269) (l2.take ((ji67) : Int).toNat).length c2] (by rfl) rfl rfl (by (try simp only [List.map_toArray, List.map_cons, List.map_nil]); first | done | (rw [show (l2.take ((ji67) : Int).toNat).length = (ji67).toNat from (by rw [List.length_take]; have h_ : ((ji67) : Int) ≤ (l2.length : Int) := of_decide_eq_true (by first | (with_reducible assumption) | assumption); omega)] <;> rfl) | (simp only [hji67]; rfl) | rfl | (simp only [List.length_drop, List.length_take]; rfl)) ?_
                    with_reducible refine (vpath_Check.calls kj35 _ _ l0_0 _ _ l0_1 a0_2 a1 _ _ (l2.take ((ji67) : Int).toNat) t280 _ ?side1 ?side2 ?side3 ?side4 ?side5 ?side6 A70.out).mono ?_
                    (case side1 => repeat (first | exact (qk4 HR0_0.out HB.out) | (with_reducible refine Kd.C_alloc ?_ _) | (with_reducible refine Kd.C_drewN ?_ _) | (with_reducible refine Kd.C_drew ?_)))
                    (case side2 => exact HC0_0.out)
                    (case side3 => repeat (first | exact (qk4 HR0_1.out HB.out) | (with_reducible refine Kd.C_alloc ?_ _) | (with_reducible refine Kd.C_drewN ?_ _) | (with_reducible refine Kd.C_drew ?_)))
                    (case side4 => exact HC0_1.out)
                    (case side5 => repeat (first | exact (qk4 HR279.out HB.out) | (with_reducible refine Kd.C_alloc ?_ _) | (with_reducible refine Kd.C_drewN ?_ _) | (with_reducible refine Kd.C_drew ?_)))
                    (case side6 => exact HC279.out)
                    rintro e w77 ⟨rfl, hb⟩
                    refine ⟨_, rfl, ?_⟩
                    have n0_ := qam (Kd.R_below (by (with_reducible repeat (first | apply qk1 | apply qk2 | apply qk3)); exact HO_8.out) hb)
                    have n1_ := qam (blk_below (g := gb261) (o := .cells #[.slice A0_0 l0_0.length c0_0, .slice (some ad270) l0_1.length c0_1, .int .i64 a0_2] 25 (0, 0)) (by (with_reducible repeat (first | refine qb3 ?_ _ | refine qb5 ?_ | refine qb4 ?_ _)); exact BK261.out) hb)
                    have n2_ := qam (blk_below (g := gb271) (o := .cells #[.int .i64 ((rd_T32 l0_1 (rd l2 x9_2)).f0), .int .i64 ((rd_T32 l0_1 (rd l2 x9_2)).f1), .int .i64 ((rd_T32 l0_1 (rd l2 x9_2)).f2), .int .i64 ((rd_T32 l0_1 (rd l2 x9_2)).f3)] 32 (0, 0)) (by (with_reducible repeat (first | refine qb3 ?_ _ | refine qb5 ?_ | refine qb4 ?_ _)); exact BK271.out) hb)
                    have n3_ := qam (qw6 (by repeat (first | (with_reducible first | exact HB.out | apply qw1 | apply qw2 | apply qw3 | refine qw4 ?_ GE261.out | refine qw4 ?_ GE271.out) | exact HB.out)) hb)
                    clear HO_8
                    clear BK261
                    clear BK271
                    clear HB
                    have HO_8 := n0_
                    have BK261 := n1_
                    have BK271 := n2_
                    have HB := n3_
                    clear n0_ n1_ n2_ n3_
                    (try clear hb)
                    (try clear hb2)
                    (try clear hk)
                    (try clear hi)
                    obtain ⟨Ao8x, co8x, eo8x⟩ := Kd.R_slice HO_8.out
                    subst eo8x
                    obtain ⟨i078, hi078, _, hsz78, _⟩ := info_parts info3
                    obtain ⟨hcut78, hA78, hC78⟩ := print_take_of (P := Try.prog) (Value.int .i64) 0 26 3 .i64 Try.underlying26 hi078 hsz78 (some ad269) c2 l2 (ji67) (of_decide_eq_true (by first | (with_reducible assumption) | assumption)) (of_decide_eq_true (by first | (with_reducible assumption) | assumption)) HC2.out
                    have HR281 := qam (Kd.C_of_reads (h1 := fun _ => rfl) (hA78 _ (Kd.reads_of_C HR2.out)))
                    have HC281 := qam hC78
                    clear hA78 hC78 hi078 hsz78
                    refine hK.out _ _ ⟨(qb1 BK261.out 0).trans rfl, (qb1 BK261.out 1).trans rfl, (qb1 BK261.out 2).trans rfl⟩ (fun hHeld => ?_)
                    clear hK K
                    refine norm_ (a' := ?_) ?_ ?_
                    rotate_left
                    ·show Act.put _ (some 113) _ = _
                     simp only [Act.put, qs1, qs2, qs3, i64_w, i32_w]
                     rfl
                    refine pure_ (i := 7) (N := some 114) (v := ?_) (a' := ?_) #[true, true, true, true, true, true, true, true, false, false, false, false, false, false, false, false, false, false, false, false, false] rfl rfl (any_of HT_.out (by kernel_rfl)) (fun _ _ _ h => h) (Or.inl ⟨by rfl, ?_⟩) ?_ ?_
                    rotate_left
                    ·intro w'
                     go_simp
                     with_reducible rfl
                    rotate_left
                    ·simp only [Act.put, qs1, qs2, qs3, i64_w, i32_w]
                     rfl
                    refine pure_ (i := 8) (N := some 115) (v := ?_) (a' := ?_) #[true, true, true, true, true, true, true, true, true, false, false, false, false, false, false, false, false, false, false, false, false] rfl rfl (any_of HT_.out (by kernel_rfl)) (fun _ _ _ h => h) (Or.inl ⟨by rfl, ?_⟩) ?_ ?_
                    rotate_left
                    ·intro w'
                     go_simp
                     with_reducible rfl
                    rotate_left
                    ·simp only [Act.put, qs1, qs2, qs3, i64_w, i32_w]
                     rfl
                    refine pure_ (i := 10) (N := some 117) (v := ?_) (a' := ?_) #[true, true, true, true, true, true, true, true, true, false, true, false, false, false, false, false, false, false, false, false, false] rfl rfl (any_of HT_.out (by kernel_rfl)) (fun _ _ _ h => h) (Or.inl ⟨by rfl, ?_⟩) ?_ ?_
                    rotate_left
                    ·intro w'
                     go_simp
                     with_reducible rfl
                    rotate_left
                    ·simp only [Act.put, qs1, qs2, qs3, i64_w, i32_w]
                     rfl
                    refine pure_ (i := 11) (N := some 118) (v := ?_) (a' := ?_) #[true, true, true, true, true, true, true, true, true, false, true, true, false, false, false, false, false, false, false, false, false] rfl rfl (any_of HT_.out (by kernel_rfl)) (fun _ _ _ h => h) (Or.inl ⟨by rfl, ?_⟩) ?_ ?_
                    rotate_left
                    ·intro w'
                     go_simp
                     with_reducible rfl
                    rotate_left
                    ·simp only [Act.put, qs1, qs2, qs3, i64_w, i32_w]
                     rfl
                    refine pure_ (i := 12) (N := some 119) (v := ?_) (a' := ?_) #[true, true, true, true, true, true, true, true, true, false, true, true, true, false, false, false, false, false, false, false, false] rfl rfl (any_of HT_.out (by kernel_rfl)) (fun _ _ _ h => h) (Or.inl ⟨by rfl, ?_⟩) ?_ ?_
                    rotate_left
                    ·intro w'
                     go_simp
                     with_reducible rfl
                    rotate_left
                    ·simp only [Act.put, qs1, qs2, qs3, i64_w, i32_w]
                     rfl
                    refine pure_ (i := 13) (N := some 120) (v := ?_) (a' := ?_) #[true, true, true, true, true, true, true, true, true, false, true, true, true, true, false, false, false, false, false, false, false] rfl rfl (any_of HT_.out (by kernel_rfl)) (fun _ _ _ h => h) (Or.inl ⟨by rfl, ?_⟩) ?_ ?_
                    rotate_left
                    ·intro w'
                     go_simp
                     with_reducible rfl
                    rotate_left
                    ·simp only [Act.put, qs1, qs2, qs3, i64_w, i32_w]
                     rfl
                    refine pure_ (i := 14) (N := some 121) (v := ?_) (a' := ?_) #[true, true, true, true, true, true, true, true, true, false, true, true, true, true, true, false, false, false, false, false, false] rfl rfl (any_of HT_.out (by kernel_rfl)) (fun _ _ _ h => h) (Or.inl ⟨by rfl, ?_⟩) ?_ ?_
                    rotate_left
                    ·intro w'
                     go_simp
                     with_reducible rfl
                    rotate_left
                    ·simp only [Act.put, qs1, qs2, qs3, i64_w, i32_w]
                     rfl
                    refine pure_ (i := 16) (N := some 123) (v := ?_) (a' := ?_) #[true, true, true, true, true, true, true, true, true, false, true, true, true, true, true, false, true, false, false, false, false] rfl rfl (any_of HT_.out (by kernel_rfl)) (fun _ _ _ h => h) (Or.inl ⟨by rfl, ?_⟩) ?_ ?_
                    rotate_left
                    ·intro w'
                     go_simp
                     with_reducible rfl
                    rotate_left
                    ·simp only [Act.put, qs1, qs2, qs3, i64_w, i32_w]
                     rfl
                    refine pure_ (i := 17) (N := some 124) (v := ?_) (a' := ?_) #[true, true, true, true, true, true, true, true, true, false, true, true, true, true, true, false, true, true, false, false, false] rfl rfl (any_of HT_.out (by kernel_rfl)) (fun _ _ _ h => h) (Or.inl ⟨by rfl, ?_⟩) ?_ ?_
                    rotate_left
                    ·intro w'
                     go_simp
                     with_reducible rfl
                    rotate_left
                    ·simp only [Act.put, qs1, qs2, qs3, i64_w, i32_w]
                     rfl
                    refine pure_ (i := 18) (N := some 125) (v := ?_) (a' := ?_) #[true, true, true, true, true, true, true, true, true, false, true, true, true, true, true, false, true, true, true, false, false] rfl rfl (any_of HT_.out (by kernel_rfl)) (fun _ _ _ h => h) (Or.inl ⟨by rfl, ?_⟩) ?_ ?_
                    rotate_left
                    ·intro w'
                     go_simp
                     with_reducible rfl
                    rotate_left
                    ·simp only [Act.put, qs1, qs2, qs3, i64_w, i32_w]
                     rfl
                    refine take_ (i := 9) (N := some 116) (v := ?_) (a' := ?_) #[true, true, true, true, true, true, true, true, true, true, true, true, true, true, true, false, true, true, true, false, false] rfl rfl (take_ofW HT_.out HW_.out (by kernel_rfl)) (fun _ _ _ h => h) (Or.inl ⟨by rfl, ?_⟩) hHeld ?_ ?_
                    rotate_left
                    ·rintro w' ⟨s0, s1, s2⟩
                     go_simp
                     with_reducible rfl
                    rotate_left
                    ·simp only [Act.put, qs1, qs2, qs3, i64_w, i32_w]
                     rfl
                    refine one_ (i := 15) (N := some 122) #[true, true, true, true, true, true, true, true, true, true, true, true, true, true, true, true, true, true, true, false, false] rfl rfl (one_of HT_.out (by kernel_rfl)) (by decide) (fun K hK => ?_)
                    refine goes_ Try.func17 (by kernel_rfl) rfl #[.agg #[.slice A0_0 l0_0.length c0_0, .slice (some ad270) l0_1.length c0_1, .int .i64 a0_2], .int .i64 a1, .slice (some ad269) (l2.take ((ji67) : Int).toNat).length c2] (by rfl) rfl rfl (by (try simp only [List.map_toArray, List.map_cons, List.map_nil]); first | done | (rw [show (l2.take ((ji67) : Int).toNat).length = (ji67).toNat from (by rw [List.length_take]; have h_ : ((ji67) : Int) ≤ (l2.length : Int) := of_decide_eq_true (by first | (with_reducible assumption) | assumption); omega)] <;> rfl) | (simp only [hji67]; rfl) | rfl | (simp only [List.length_drop, List.length_take]; rfl)) ?_
                    with_reducible refine (vpath_Balanced.calls kj35 _ _ l0_0 _ _ l0_1 a0_2 a1 _ _ (l2.take ((ji67) : Int).toNat) t282 _ ?side1 ?side2 ?side3 ?side4 ?side5 ?side6 A74.out).mono ?_
                    (case side1 => repeat (first | exact (qk4 HR0_0.out HB.out) | (with_reducible refine Kd.C_alloc ?_ _) | (with_reducible refine Kd.C_drewN ?_ _) | (with_reducible refine Kd.C_drew ?_)))
                    (case side2 => exact HC0_0.out)
                    (case side3 => repeat (first | exact (qk4 HR0_1.out HB.out) | (with_reducible refine Kd.C_alloc ?_ _) | (with_reducible refine Kd.C_drewN ?_ _) | (with_reducible refine Kd.C_drew ?_)))
                    (case side4 => exact HC0_1.out)
                    (case side5 => repeat (first | exact (qk4 HR281.out HB.out) | (with_reducible refine Kd.C_alloc ?_ _) | (with_reducible refine Kd.C_drewN ?_ _) | (with_reducible refine Kd.C_drew ?_)))
                    (case side6 => exact HC281.out)
                    rintro e w79 ⟨rfl, hb⟩
                    refine ⟨_, rfl, ?_⟩
                    have n0_ := qam (Kd.R_below (by (with_reducible repeat (first | apply qk1 | apply qk2 | apply qk3)); exact HO_8.out) hb)
                    have n1_ := qam (blk_below (g := gb261) (o := .cells #[.slice A0_0 l0_0.length c0_0, .slice (some ad270) l0_1.length c0_1, .int .i64 a0_2] 25 (0, 0)) (by (with_reducible repeat (first | refine qb3 ?_ _ | refine qb5 ?_ | refine qb4 ?_ _)); exact BK261.out) hb)
                    have n2_ := qam (blk_below (g := gb271) (o := .cells #[.int .i64 ((rd_T32 l0_1 (rd l2 x9_2)).f0), .int .i64 ((rd_T32 l0_1 (rd l2 x9_2)).f1), .int .i64 ((rd_T32 l0_1 (rd l2 x9_2)).f2), .int .i64 ((rd_T32 l0_1 (rd l2 x9_2)).f3)] 32 (0, 0)) (by (with_reducible repeat (first | refine qb3 ?_ _ | refine qb5 ?_ | refine qb4 ?_ _)); exact BK271.out) hb)
                    have n3_ := qam (qw6 (by repeat (first | (with_reducible first | exact HB.out | apply qw1 | apply qw2 | apply qw3 | refine qw4 ?_ GE261.out | refine qw4 ?_ GE271.out) | exact HB.out)) hb)
                    clear HO_8
                    clear BK261
                    clear BK271
                    clear HB
                    have HO_8 := n0_
                    have BK261 := n1_
                    have BK271 := n2_
                    have HB := n3_
                    clear n0_ n1_ n2_ n3_
                    (try clear hb)
                    (try clear hb2)
                    (try clear hk)
                    (try clear hi)
                    obtain ⟨Ao80, co80, eo80⟩ := Kd.R_slice HO_8.out
                    (first | subst eo80 | (injection eo80 with f1_ f2_ f3_; have f4_ := f1_.symm; have f5_ := f3_.symm; clear f1_ f2_ f3_; subst f4_; subst f5_))
                    refine hK.out _ _ ⟨(qb1 BK261.out 0).trans rfl, (qb1 BK261.out 1).trans rfl, (qb1 BK261.out 2).trans rfl⟩ (fun hHeld => ?_)
                    clear hK K
                    refine norm_ (a' := ?_) ?_ ?_
                    rotate_left
                    ·show Act.put _ (some 122) _ = _
                     simp only [Act.put, qs1, qs2, qs3, i64_w, i32_w]
                     rfl
                    refine pure_ (i := 19) (N := some 126) (v := ?_) (a' := ?_) #[true, true, true, true, true, true, true, true, true, true, true, true, true, true, true, true, true, true, true, true, false] rfl rfl (any_of HT_.out (by kernel_rfl)) (fun _ _ _ h => h) (Or.inl ⟨by rfl, ?_⟩) ?_ ?_
                    rotate_left
                    ·intro w'
                     go_simp
                     with_reducible rfl
                    rotate_left
                    ·simp only [Act.put, qs1, qs2, qs3, i64_w, i32_w]
                     rfl
                    refine pure_ (i := 20) (N := some 127) (v := ?_) (a' := ?_) #[true, true, true, true, true, true, true, true, true, true, true, true, true, true, true, true, true, true, true, true, true] rfl rfl (any_of HT_.out (by kernel_rfl)) (fun _ _ _ h => h) (Or.inl ⟨by rfl, ?_⟩) ?_ ?_
                    rotate_left
                    ·intro w'
                     go_simp
                     with_reducible rfl
                    rotate_left
                    ·simp only [Act.put, qs1, qs2, qs3, i64_w, i32_w]
                     rfl
                    refine done_ (done_of HT_.out (by kernel_rfl)) ?_
                    try go_wp2
                    go_meet
                    case rel => exact ⟨_, ((t282 != ((x8_35.length : Int) == 0))), (by first | rfl | (simp; done) | (simp [*]; done)), H', ⟨by have := HJ3.out; have := HK2.out; have := HJ21.out; have := HJ35.out; first | omega | exact Nat.le_refl _⟩, ⟨by (with_reducible repeat (first | apply qk1 | apply qk2 | apply qk3)); exact HO_8.out⟩, ⟨by (with_reducible repeat (first | refine qb3 ?_ _ | refine qb5 ?_ | refine qb4 ?_ _)); exact BK261.out⟩, ⟨by (with_reducible repeat (first | refine qb3 ?_ _ | refine qb5 ?_ | refine qb4 ?_ _)); exact BK271.out⟩, ⟨by repeat (first | (with_reducible first | exact HB.out | apply qw1 | apply qw2 | apply qw3 | refine qw4 ?_ GE261.out | refine qw4 ?_ GE271.out) | exact HB.out)⟩⟩
                   ·rw [if_neg c71] at H
                    have c71b0 : (t280 == 0) = false := beq_eq_false_iff_ne.mpr c71
                    have c71b1 : (t280 != 0) = true := bne_iff_ne.mpr c71
                    (first | rw [c71b0] | (simp only [i64_w, i32_w]; rw [c71b0]) | skip)
                    have H' := qam H
                    clear H
                    try go_wp2
                    have n0_ := qam (qk3 HO_8.out)
                    have n1_ := qam (qb5 BK261.out)
                    have n2_ := qam (qb5 BK271.out)
                    have n3_ := qam (qw3 HB.out)
                    clear HO_8
                    clear BK261
                    clear BK271
                    clear HB
                    have HO_8 := n0_
                    have BK261 := n1_
                    have BK271 := n2_
                    have HB := n3_
                    clear n0_ n1_ n2_ n3_
                    obtain ⟨i082, hi082, _, hsz82, _⟩ := info_parts info3
                    obtain ⟨hcut82, hA82, hC82⟩ := print_take_of (P := Try.prog) (Value.int .i64) 0 26 3 .i64 Try.underlying26 hi082 hsz82 (some ad269) c2 l2 (ji67) (of_decide_eq_true (by first | (with_reducible assumption) | assumption)) (of_decide_eq_true (by first | (with_reducible assumption) | assumption)) HC2.out
                    have HR279 := qam (Kd.C_of_reads (h1 := fun _ => rfl) (hA82 _ (Kd.reads_of_C HR2.out)))
                    have HC279 := qam hC82
                    clear hA82 hC82 hi082 hsz82
                    refine start_ (n := 21) (S := fun w' => w'.cell? ⟨gb261, 0, none⟩ = some (.slice A0_0 l0_0.length c0_0) ∧ w'.cell? ⟨gb261, 1, none⟩ = some (.slice (some ad270) l0_1.length c0_1) ∧ w'.cell? ⟨gb261, 2, none⟩ = some (.int .i64 a0_2)) (ds := []) #[false, false, false, false, false, false, false, false, false, false, false, false, false, false, false, false, false, false, false, false, false] (by kernel_rfl) rfl rfl ⟨(qb1 BK261.out 0).trans rfl, (qb1 BK261.out 1).trans rfl, (qb1 BK261.out 2).trans rfl⟩ (fun hHeld => ?_); refine with_tabW dataflowlaw28_VpathMatch.tab20 dataflowlaw28_VpathMatch.bits20 (fun HT_ HW_ => ?_)
                    generalize wc.drew = w81 at HO_8 BK261 BK271 HB HR279 hHeld ⊢
                    refine pure_ (i := 1) (N := some 108) (v := ?_) (a' := ?_) #[false, true, false, false, false, false, false, false, false, false, false, false, false, false, false, false, false, false, false, false, false] rfl rfl (any_of HT_.out (by kernel_rfl)) (fun _ _ _ h => h) (Or.inl ⟨by rfl, ?_⟩) ?_ ?_
                    rotate_left
                    ·intro w'
                     go_simp
                     with_reducible rfl
                    rotate_left
                    ·simp only [Act.put, qs1, qs2, qs3, i64_w, i32_w]
                     rfl
                    refine pure_ (i := 2) (N := some 109) (v := ?_) (a' := ?_) #[false, true, true, false, false, false, false, false, false, false, false, false, false, false, false, false, false, false, false, false, false] rfl rfl (any_of HT_.out (by kernel_rfl)) (fun _ _ _ h => h) (Or.inl ⟨by rfl, ?_⟩) ?_ ?_
                    rotate_left
                    ·intro w'
                     go_simp
                     with_reducible rfl
                    rotate_left
                    ·simp only [Act.put, qs1, qs2, qs3, i64_w, i32_w]
                     rfl
                    refine pure_ (i := 3) (N := some 110) (v := ?_) (a' := ?_) #[false, true, true, true, false, false, false, false, false, false, false, false, false, false, false, false, false, false, false, false, false] rfl rfl (any_of HT_.out (by kernel_rfl)) (fun _ _ _ h => h) (Or.inl ⟨by rfl, ?_⟩) ?_ ?_
                    rotate_left
                    ·intro w'
                     go_simp
                     with_reducible rfl
                    rotate_left
                    ·simp only [Act.put, qs1, qs2, qs3, i64_w, i32_w]
                     rfl
                    refine pure_ (i := 4) (N := some 111) (v := ?_) (a' := ?_) #[false, true, true, true, true, false, false, false, false, false, false, false, false, false, false, false, false, false, false, false, false] rfl rfl (any_of HT_.out (by kernel_rfl)) (fun _ _ _ h => h) (Or.inl ⟨by rfl, ?_⟩) ?_ ?_
                    rotate_left
                    ·intro w'
                     go_simp
                     with_reducible rfl
                    rotate_left
                    ·simp only [Act.put, qs1, qs2, qs3, i64_w, i32_w]
                     rfl
                    refine pure_ (i := 5) (N := some 112) (v := ?_) (a' := ?_) #[false, true, true, true, true, true, false, false, false, false, false, false, false, false, false, false, false, false, false, false, false] rfl rfl (any_of HT_.out (by kernel_rfl)) (fun _ _ _ h => h) (Or.inl ⟨by rfl, ?_⟩) ?_ ?_
                    rotate_left
                    ·intro w'
                     go_simp
                     with_reducible rfl
                    rotate_left
                    ·simp only [Act.put, qs1, qs2, qs3, i64_w, i32_w]
                     rfl
                    refine take_ (i := 0) (N := some 107) (v := ?_) (a' := ?_) #[true, true, true, true, true, true, false, false, false, false, false, false, false, false, false, false, false, false, false, false, false] rfl rfl (take_ofW HT_.out HW_.out (by kernel_rfl)) (fun _ _ _ h => h) (Or.inl ⟨by rfl, ?_⟩) hHeld ?_ ?_
                    rotate_left
                    ·rintro w' ⟨s0, s1, s2⟩
                     go_simp
                     with_reducible rfl
                    rotate_left
                    ·simp only [Act.put, qs1, qs2, qs3, i64_w, i32_w]
                     rfl
                    refine one_ (i := 6) (N := some 113) #[true, true, true, true, true, true, true, false, false, false, false, false, false, false, false, false, false, false, false, false, false] rfl rfl (one_of HT_.out (by kernel_rfl)) (by decide) (fun K hK => ?_)
                    refine goes_ Try.func15 (by kernel_rfl) rfl #[.agg #[.slice A0_0 l0_0.length c0_0, .slice (some ad270) l0_1.length c0_1, .int .i64 a0_2], .int .i64 a1, .slice (some ad269) (l2.take ((ji67) : Int).toNat).length c2] (by rfl) rfl rfl (by (try simp only [List.map_toArray, List.map_cons, List.map_nil]); first | done | (rw [show (l2.take ((ji67) : Int).toNat).length = (ji67).toNat from (by rw [List.length_take]; have h_ : ((ji67) : Int) ≤ (l2.length : Int) := of_decide_eq_true (by first | (with_reducible assumption) | assumption); omega)] <;> rfl) | (simp only [hji67]; rfl) | rfl | (simp only [List.length_drop, List.length_take]; rfl)) ?_
                    with_reducible refine (vpath_Check.calls kj35 _ _ l0_0 _ _ l0_1 a0_2 a1 _ _ (l2.take ((ji67) : Int).toNat) t280 _ ?side1 ?side2 ?side3 ?side4 ?side5 ?side6 A70.out).mono ?_
                    (case side1 => repeat (first | exact (qk4 HR0_0.out HB.out) | (with_reducible refine Kd.C_alloc ?_ _) | (with_reducible refine Kd.C_drewN ?_ _) | (with_reducible refine Kd.C_drew ?_)))
                    (case side2 => exact HC0_0.out)
                    (case side3 => repeat (first | exact (qk4 HR0_1.out HB.out) | (with_reducible refine Kd.C_alloc ?_ _) | (with_reducible refine Kd.C_drewN ?_ _) | (with_reducible refine Kd.C_drew ?_)))
                    (case side4 => exact HC0_1.out)
                    (case side5 => repeat (first | exact (qk4 HR279.out HB.out) | (with_reducible refine Kd.C_alloc ?_ _) | (with_reducible refine Kd.C_drewN ?_ _) | (with_reducible refine Kd.C_drew ?_)))
                    (case side6 => exact HC279.out)
                    rintro e w83 ⟨rfl, hb⟩
                    refine ⟨_, rfl, ?_⟩
                    have n0_ := qam (Kd.R_below (by (with_reducible repeat (first | apply qk1 | apply qk2 | apply qk3)); exact HO_8.out) hb)
                    have n1_ := qam (blk_below (g := gb261) (o := .cells #[.slice A0_0 l0_0.length c0_0, .slice (some ad270) l0_1.length c0_1, .int .i64 a0_2] 25 (0, 0)) (by (with_reducible repeat (first | refine qb3 ?_ _ | refine qb5 ?_ | refine qb4 ?_ _)); exact BK261.out) hb)
                    have n2_ := qam (blk_below (g := gb271) (o := .cells #[.int .i64 ((rd_T32 l0_1 (rd l2 x9_2)).f0), .int .i64 ((rd_T32 l0_1 (rd l2 x9_2)).f1), .int .i64 ((rd_T32 l0_1 (rd l2 x9_2)).f2), .int .i64 ((rd_T32 l0_1 (rd l2 x9_2)).f3)] 32 (0, 0)) (by (with_reducible repeat (first | refine qb3 ?_ _ | refine qb5 ?_ | refine qb4 ?_ _)); exact BK271.out) hb)
                    have n3_ := qam (qw6 (by repeat (first | (with_reducible first | exact HB.out | apply qw1 | apply qw2 | apply qw3 | refine qw4 ?_ GE261.out | refine qw4 ?_ GE271.out) | exact HB.out)) hb)
                    clear HO_8
                    clear BK261
                    clear BK271
                    clear HB
                    have HO_8 := n0_
                    have BK261 := n1_
                    have BK271 := n2_
                    have HB := n3_
                    clear n0_ n1_ n2_ n3_
                    (try clear hb)
                    (try clear hb2)
                    (try clear hk)
                    (try clear hi)
                    refine hK.out _ _ ⟨(qb1 BK261.out 0).trans rfl, (qb1 BK261.out 1).trans rfl, (qb1 BK261.out 2).trans rfl⟩ (fun hHeld => ?_)
                    clear hK K
                    refine norm_ (a' := ?_) ?_ ?_
                    rotate_left
                    ·show Act.put _ (some 113) _ = _
                     simp only [Act.put, qs1, qs2, qs3, i64_w, i32_w]
                     rfl
                    refine pure_ (i := 7) (N := some 114) (v := ?_) (a' := ?_) #[true, true, true, true, true, true, true, true, false, false, false, false, false, false, false, false, false, false, false, false, false] rfl rfl (any_of HT_.out (by kernel_rfl)) (fun _ _ _ h => h) (Or.inl ⟨by rfl, ?_⟩) ?_ ?_
                    rotate_left
                    ·intro w'
                     go_simp
                     with_reducible rfl
                    rotate_left
                    ·simp only [Act.put, qs1, qs2, qs3, i64_w, i32_w]
                     rfl
                    refine pure_ (i := 8) (N := some 115) (v := ?_) (a' := ?_) #[true, true, true, true, true, true, true, true, true, false, false, false, false, false, false, false, false, false, false, false, false] rfl rfl (any_of HT_.out (by kernel_rfl)) (fun _ _ _ h => h) (Or.inl ⟨by rfl, ?_⟩) ?_ ?_
                    rotate_left
                    ·intro w'
                     go_simp
                     with_reducible rfl
                    rotate_left
                    ·simp only [Act.put, qs1, qs2, qs3, i64_w, i32_w]
                     rfl
                    refine pure_ (i := 9) (N := some 116) (v := undef) (a' := ?_) #[true, true, true, true, true, true, true, true, true, true, false, false, false, false, false, false, false, false, false, false, false] rfl rfl (any_of HT_.out (by kernel_rfl)) (fun _ _ _ h => h) (Or.inr ⟨by rfl, rfl⟩) ?_ ?_
                    rotate_left
                    ·simp only [Act.put, qs1, qs2, qs3, i64_w, i32_w]
                     rfl
                    refine pure_ (i := 10) (N := some 117) (v := undef) (a' := ?_) #[true, true, true, true, true, true, true, true, true, true, true, false, false, false, false, false, false, false, false, false, false] rfl rfl (any_of HT_.out (by kernel_rfl)) (fun _ _ _ h => h) (Or.inr ⟨by rfl, rfl⟩) ?_ ?_
                    rotate_left
                    ·simp only [Act.put, qs1, qs2, qs3, i64_w, i32_w]
                     rfl
                    refine pure_ (i := 11) (N := some 118) (v := undef) (a' := ?_) #[true, true, true, true, true, true, true, true, true, true, true, true, false, false, false, false, false, false, false, false, false] rfl rfl (any_of HT_.out (by kernel_rfl)) (fun _ _ _ h => h) (Or.inr ⟨by rfl, rfl⟩) ?_ ?_
                    rotate_left
                    ·simp only [Act.put, qs1, qs2, qs3, i64_w, i32_w]
                     rfl
                    refine pure_ (i := 12) (N := some 119) (v := undef) (a' := ?_) #[true, true, true, true, true, true, true, true, true, true, true, true, true, false, false, false, false, false, false, false, false] rfl rfl (any_of HT_.out (by kernel_rfl)) (fun _ _ _ h => h) (Or.inr ⟨by rfl, rfl⟩) ?_ ?_
                    rotate_left
                    ·simp only [Act.put, qs1, qs2, qs3, i64_w, i32_w]
                     rfl
                    refine pure_ (i := 13) (N := some 120) (v := undef) (a' := ?_) #[true, true, true, true, true, true, true, true, true, true, true, true, true, true, false, false, false, false, false, false, false] rfl rfl (any_of HT_.out (by kernel_rfl)) (fun _ _ _ h => h) (Or.inr ⟨by rfl, rfl⟩) ?_ ?_
                    rotate_left
                    ·simp only [Act.put, qs1, qs2, qs3, i64_w, i32_w]
                     rfl
                    refine pure_ (i := 14) (N := some 121) (v := undef) (a' := ?_) #[true, true, true, true, true, true, true, true, true, true, true, true, true, true, true, false, false, false, false, false, false] rfl rfl (any_of HT_.out (by kernel_rfl)) (fun _ _ _ h => h) (Or.inr ⟨by rfl, rfl⟩) ?_ ?_
                    rotate_left
                    ·simp only [Act.put, qs1, qs2, qs3, i64_w, i32_w]
                     rfl
                    refine pure_ (i := 15) (N := some 122) (v := undef) (a' := ?_) #[true, true, true, true, true, true, true, true, true, true, true, true, true, true, true, true, false, false, false, false, false] rfl rfl (any_of HT_.out (by kernel_rfl)) (fun _ _ _ h => h) (Or.inr ⟨by rfl, rfl⟩) ?_ ?_
                    rotate_left
                    ·simp only [Act.put, qs1, qs2, qs3, i64_w, i32_w]
                     rfl
                    refine pure_ (i := 16) (N := some 123) (v := undef) (a' := ?_) #[true, true, true, true, true, true, true, true, true, true, true, true, true, true, true, true, true, false, false, false, false] rfl rfl (any_of HT_.out (by kernel_rfl)) (fun _ _ _ h => h) (Or.inr ⟨by rfl, rfl⟩) ?_ ?_
                    rotate_left
                    ·simp only [Act.put, qs1, qs2, qs3, i64_w, i32_w]
                     rfl
                    refine pure_ (i := 17) (N := some 124) (v := undef) (a' := ?_) #[true, true, true, true, true, true, true, true, true, true, true, true, true, true, true, true, true, true, false, false, false] rfl rfl (any_of HT_.out (by kernel_rfl)) (fun _ _ _ h => h) (Or.inr ⟨by rfl, rfl⟩) ?_ ?_
                    rotate_left
                    ·simp only [Act.put, qs1, qs2, qs3, i64_w, i32_w]
                     rfl
                    refine pure_ (i := 18) (N := some 125) (v := undef) (a' := ?_) #[true, true, true, true, true, true, true, true, true, true, true, true, true, true, true, true, true, true, true, false, false] rfl rfl (any_of HT_.out (by kernel_rfl)) (fun _ _ _ h => h) (Or.inr ⟨by rfl, rfl⟩) ?_ ?_
                    rotate_left
                    ·simp only [Act.put, qs1, qs2, qs3, i64_w, i32_w]
                     rfl
                    refine pure_ (i := 19) (N := some 126) (v := undef) (a' := ?_) #[true, true, true, true, true, true, true, true, true, true, true, true, true, true, true, true, true, true, true, true, false] rfl rfl (any_of HT_.out (by kernel_rfl)) (fun _ _ _ h => h) (Or.inr ⟨by rfl, rfl⟩) ?_ ?_
                    rotate_left
                    ·simp only [Act.put, qs1, qs2, qs3, i64_w, i32_w]
                     rfl
                    refine pure_ (i := 20) (N := some 127) (v := ?_) (a' := ?_) #[true, true, true, true, true, true, true, true, true, true, true, true, true, true, true, true, true, true, true, true, true] rfl rfl (any_of HT_.out (by kernel_rfl)) (fun _ _ _ h => h) (Or.inl ⟨by rfl, ?_⟩) ?_ ?_
                    rotate_left
                    ·intro w'
                     go_simp
                     with_reducible rfl
                    rotate_left
                    ·simp only [Act.put, qs1, qs2, qs3, i64_w, i32_w]
                     rfl
                    refine done_ (done_of HT_.out (by kernel_rfl)) ?_
                    try go_wp2
                    go_meet
                    case rel => exact ⟨_, (true), (by first | rfl | (simp; done) | (simp [*]; done)), H', ⟨by have := HJ3.out; have := HK2.out; have := HJ21.out; have := HJ35.out; first | omega | exact Nat.le_refl _⟩, ⟨by (with_reducible repeat (first | apply qk1 | apply qk2 | apply qk3)); exact HO_8.out⟩, ⟨by (with_reducible repeat (first | refine qb3 ?_ _ | refine qb5 ?_ | refine qb4 ?_ _)); exact BK261.out⟩, ⟨by (with_reducible repeat (first | refine qb3 ?_ _ | refine qb5 ?_ | refine qb4 ?_ _)); exact BK271.out⟩, ⟨by repeat (first | (with_reducible first | exact HB.out | apply qw1 | apply qw2 | apply qw3 | refine qw4 ?_ GE261.out | refine qw4 ?_ GE271.out) | exact HB.out)⟩⟩
                  ·rw [if_neg c69] at H
                   exact absurd H (by simp)
                 ·rw [if_neg c68] at H
                  exact absurd H (by simp)
                case rest => as_aux_lemma =>
                 clear HC66
                 try clear c1
                 try clear c2
                 try clear p2
                 try clear q2
                 try clear hx2
                 try clear c3
                 try clear c4
                 try clear c5
                 try clear c6
                 try clear p6
                 try clear q6
                 try clear c7
                 try clear c15
                 try clear c17
                 try clear c23
                 try clear c24
                 try clear c24b0
                 try clear c26
                 try clear c26b0
                 try clear p26
                 try clear q26
                 try clear hx26
                 try clear p27
                 try clear q27
                 try clear hx27
                 try clear c28
                 try clear c28b0
                 try clear c29
                 try clear c29b0
                 try clear c31
                 try clear c32
                 try clear c32b0
                 try clear c33
                 try clear c33b0
                 try clear c34
                 try clear c34b0
                 try clear c35
                 try clear c35b0
                 try clear c43
                 try clear c45
                 try clear c45b0
                 try clear c45b1
                 try clear c46
                 try clear c47
                 try clear c51
                 try clear c51b0
                 try clear c51b1
                 try clear c52
                 try clear c53
                 try clear c53b0
                 try clear c53b1
                 try clear c53b2
                 try clear c57
                 try clear c57b0
                 try clear c58
                 try clear c58b0
                 try clear c59
                 try clear c59b0
                 try clear c59b1
                 try clear c60
                 try clear c60b0
                 try clear c60b1
                 try clear q63
                 try clear p64
                 try clear c68
                 try clear c68b0
                 try clear c68b1
                 try clear c69
                 try clear c69b0
                 try clear c69b1
                 try clear c71
                 try clear c71b0
                 try clear c71b1
                 try clear c72
                 try clear c72b0
                 try clear c73
                 try clear c73b0
                 try clear hcz44_0
                 try clear hcz44_1
                 try clear hcz44_2
                 try clear hcz44_3
                 try clear hcz48_0
                 try clear hcz48_1
                 try clear hcz48_2
                 try clear hcz48_3
                 try clear hfz44_0
                 try clear hfz44_1
                 try clear hfz44_2
                 try clear hfz44_3
                 try clear hfz48_0
                 try clear hfz48_1
                 try clear hfz48_2
                 try clear hfz48_3
                 try clear hx265_0
                 try clear hx266_0
                 try clear hx267_0
                 try clear hx268_0
                 try clear hx268_1
                 try clear hx268_2
                 try clear hx268_3
                 try clear hx269_0
                 try clear hx270_0
                 try clear hx270_1
                 try clear hx270_2
                 try clear hx270_3
                 try clear hx275_0
                 try clear p2
                 try clear p26
                 try clear p265
                 try clear p266
                 try clear p267
                 try clear p268
                 try clear p269
                 try clear p27
                 try clear p270
                 try clear p275
                 try clear p6
                 try clear p64
                 try clear q2
                 try clear q26
                 try clear q265
                 try clear q266
                 try clear q267
                 try clear q268
                 try clear q269
                 try clear q27
                 try clear q270
                 try clear q275
                 try clear q6
                 try clear q63
                 obtain ⟨kq, x127_65, rfl, HA, HJ65, HO_8, BK261, BK271, HB⟩ := hcut
                 cases kq with
                 | zero => exact absurd HA.out (by simp [dataflowlaw28_VpathMatch.j5])
                 | succ kj65 =>
                  have H := HA.out
                  clear HA
                  simp only [dataflowlaw28_VpathMatch.j5] at H
                  by_cases c84 : x127_65 = true
                  ·subst c84
                   have H1 : (some false) = some true := by rw [if_pos rfl] at H; exact H
                   clear H
                   have H := H1
                   clear H1
                   exact absurd H (by simp)
                  ·replace c84 := Bool.eq_false_iff.mpr c84
                   subst c84
                   have H1 : (if (x8_35.length : Int) = 0 then (if 0 ≤ ((rd_T32 l0_1 (rd l2 x9_2)).f1) then (if ((rd_T32 l0_1 (rd l2 x9_2)).f1) < (l0_0.length : Int) then (if 0 ≤ a1 then (if a1 < (l0_0.length : Int) then (if ((rd_T35 l0_0 ((rd_T32 l0_1 (rd l2 x9_2)).f1)).f0) = ((rd_T35 l0_0 a1).f0) then (dataflowlaw28_VpathMatch.l0 kj65 a1 l2 ((rd_T32 l0_1 (rd l2 x9_2)).f1) x8_35 (wrap64 (x9_2 + 1)) l0_0 l0_1 a0_2) else (some false)) else (none)) else (none)) else (none)) else (none)) else (dataflowlaw28_VpathMatch.l0 kj65 a1 l2 ((rd_T32 l0_1 (rd l2 x9_2)).f1) x8_35 (wrap64 (x9_2 + 1)) l0_0 l0_1 a0_2)) = some true := by rw [if_neg (show ¬ (false = true) by decide)] at H; exact H
                   clear H
                   have H := H1
                   clear H1
                   by_cases c85 : (x8_35.length : Int) = 0
                   ·rw [if_pos c85] at H
                    have c85b0 : ((x8_35.length : Int) == 0) = true := beq_iff_eq.mpr c85
                    have c85b1 : ((x8_35.length : Int) != 0) = false := bne_eq_false_iff_eq.mpr c85
                    clear c85
                    by_cases c86 : 0 ≤ ((rd_T32 l0_1 (rd l2 x9_2)).f1)
                    ·rw [if_pos c86] at H
                     have c86b0 : decide (0 ≤ ((rd_T32 l0_1 (rd l2 x9_2)).f1)) = true := decide_eq_true c86
                     clear c86
                     by_cases c87 : ((rd_T32 l0_1 (rd l2 x9_2)).f1) < (l0_0.length : Int)
                     ·rw [if_pos c87] at H
                      have c87b0 : decide (((rd_T32 l0_1 (rd l2 x9_2)).f1) < (l0_0.length : Int)) = true := decide_eq_true c87
                      clear c87
                      by_cases c88 : 0 ≤ a1
                      ·rw [if_pos c88] at H
                       have c88b0 : decide (0 ≤ a1) = true := decide_eq_true c88
                       clear c88
                       by_cases c89 : a1 < (l0_0.length : Int)
                       ·rw [if_pos c89] at H
                        have c89b0 : decide (a1 < (l0_0.length : Int)) = true := decide_eq_true c89
                        clear c89
                        by_cases c90 : ((rd_T35 l0_0 ((rd_T32 l0_1 (rd l2 x9_2)).f1)).f0) = ((rd_T35 l0_0 a1).f0)
                        ·rw [if_pos c90] at H
                         have c90b0 : (((rd_T35 l0_0 ((rd_T32 l0_1 (rd l2 x9_2)).f1)).f0) == ((rd_T35 l0_0 a1).f0)) = true := beq_iff_eq.mpr c90
                         have c90b1 : (((rd_T35 l0_0 ((rd_T32 l0_1 (rd l2 x9_2)).f1)).f0) != ((rd_T35 l0_0 a1).f0)) = false := bne_eq_false_iff_eq.mpr c90
                         clear c90
                         have H' := qam H
                         clear H
                         try go_wp2
                         have n0_ := qam (qk3 HO_8.out)
                         have n1_ := qam (qb5 BK261.out)
                         have n2_ := qam (qb5 BK271.out)
                         have n3_ := qam (qw3 HB.out)
                         clear HO_8
                         clear BK261
                         clear BK271
                         clear HB
                         have HO_8 := n0_
                         have BK261 := n1_
                         have BK271 := n2_
                         have HB := n3_
                         clear n0_ n1_ n2_ n3_
                         obtain ⟨Ao92, co92, eo92⟩ := Kd.R_slice HO_8.out
                         (first | subst eo92 | (injection eo92 with f1_ f2_ f3_; have f4_ := f1_.symm; have f5_ := f3_.symm; clear f1_ f2_ f3_; subst f4_; subst f5_))
                         have p283 : 0 ≤ (((rd_T32 l0_1 (rd l2 x9_2)).f1) : Int) := of_decide_eq_true (by first | (with_reducible assumption) | assumption)
                         have q283 : ((rd_T32 l0_1 (rd l2 x9_2)).f1) < (l0_0.length : Int) := of_decide_eq_true (by first | (with_reducible assumption) | assumption)
                         obtain ⟨ad283, e283, hx283_0, hx283_1, hx283_2⟩ := at_T35 HR0_0.out ((rd_T32 l0_1 (rd l2 x9_2)).f1) p283 q283
                         have hw283_2 := hx283_2
                         have hw283_1 := hx283_1
                         have hw283_0 := hx283_0
                         cases e283
                         replace hx283_0 := (HB.out.cell (qbl w _ hx283_0)).trans hx283_0
                         replace hx283_1 := (HB.out.cell (qbl w _ hx283_1)).trans hx283_1
                         replace hx283_2 := (HB.out.cell (qbl w _ hx283_2)).trans hx283_2
                         replace p283 := eq_true p283
                         replace q283 := eq_true q283
                         have p284 : 0 ≤ (a1 : Int) := of_decide_eq_true (by first | (with_reducible assumption) | assumption)
                         have q284 : a1 < (l0_0.length : Int) := of_decide_eq_true (by first | (with_reducible assumption) | assumption)
                         obtain ⟨ad284, e284, hx284_0, hx284_1, hx284_2⟩ := at_T35 HR0_0.out a1 p284 q284
                         have hw284_2 := hx284_2
                         have hw284_1 := hx284_1
                         have hw284_0 := hx284_0
                         obtain rfl : ad283 = ad284 := (by injection e284)
                         replace hx284_0 := (HB.out.cell (qbl w _ hx284_0)).trans hx284_0
                         replace hx284_1 := (HB.out.cell (qbl w _ hx284_1)).trans hx284_1
                         replace hx284_2 := (HB.out.cell (qbl w _ hx284_2)).trans hx284_2
                         replace p284 := eq_true p284
                         replace q284 := eq_true q284
                         refine start_ (n := 18) (S := fun w' => w'.cell? ⟨gb261, 0, none⟩ = some (.slice (some ad283) l0_0.length c0_0) ∧ w'.cell? ⟨gb261, 1, none⟩ = some (.slice (some ad270) l0_1.length c0_1) ∧ w'.cell? ⟨gb261, 2, none⟩ = some (.int .i64 a0_2) ∧ w'.cell? (ad283.add ((((rd_T32 l0_1 (rd l2 x9_2)).f1)).toNat * 3)) = some (.int .i64 ((rd_T35 l0_0 ((rd_T32 l0_1 (rd l2 x9_2)).f1)).f0)) ∧ w'.cell? ⟨(ad283.add ((((rd_T32 l0_1 (rd l2 x9_2)).f1)).toNat * 3)).block, (ad283.add ((((rd_T32 l0_1 (rd l2 x9_2)).f1)).toNat * 3)).off + 1, none⟩ = some (.int .i64 ((rd_T35 l0_0 ((rd_T32 l0_1 (rd l2 x9_2)).f1)).f1)) ∧ w'.cell? ⟨(ad283.add ((((rd_T32 l0_1 (rd l2 x9_2)).f1)).toNat * 3)).block, (ad283.add ((((rd_T32 l0_1 (rd l2 x9_2)).f1)).toNat * 3)).off + 2, none⟩ = some (.int .i64 ((rd_T35 l0_0 ((rd_T32 l0_1 (rd l2 x9_2)).f1)).f2)) ∧ w'.cell? (ad283.add ((a1).toNat * 3)) = some (.int .i64 ((rd_T35 l0_0 a1).f0)) ∧ w'.cell? ⟨(ad283.add ((a1).toNat * 3)).block, (ad283.add ((a1).toNat * 3)).off + 1, none⟩ = some (.int .i64 ((rd_T35 l0_0 a1).f1)) ∧ w'.cell? ⟨(ad283.add ((a1).toNat * 3)).block, (ad283.add ((a1).toNat * 3)).off + 2, none⟩ = some (.int .i64 ((rd_T35 l0_0 a1).f2))) (ds := []) #[false, false, false, false, false, false, false, false, false, false, false, false, false, false, false, false, false, false] (by kernel_rfl) rfl rfl ⟨(qb1 BK261.out 0).trans rfl, (qb1 BK261.out 1).trans rfl, (qb1 BK261.out 2).trans rfl, ((HB.out.cell (qbl w _ hw283_0)).trans hw283_0), ((HB.out.cell (qbl w _ hw283_1)).trans hw283_1), ((HB.out.cell (qbl w _ hw283_2)).trans hw283_2), ((HB.out.cell (qbl w _ hw284_0)).trans hw284_0), ((HB.out.cell (qbl w _ hw284_1)).trans hw284_1), ((HB.out.cell (qbl w _ hw284_2)).trans hw284_2)⟩ (fun hHeld => ?_); refine with_tabW dataflowlaw28_VpathMatch.tab22 dataflowlaw28_VpathMatch.bits22 (fun HT_ HW_ => ?_)
                         generalize wc.drew = w91 at HO_8 BK261 BK271 HB hx283_0 hx283_1 hx283_2 hx284_0 hx284_1 hx284_2 hHeld ⊢
                         refine pure_ (i := 0) (N := some 128) (v := ?_) (a' := ?_) #[true, false, false, false, false, false, false, false, false, false, false, false, false, false, false, false, false, false] rfl rfl (any_of HT_.out (by kernel_rfl)) (fun _ _ _ h => h) (Or.inl ⟨by rfl, ?_⟩) ?_ ?_
                         rotate_left
                         ·intro w'
                          go_simp
                          with_reducible rfl
                         rotate_left
                         ·simp only [Act.put, qs1, qs2, qs3, i64_w, i32_w]
                          rfl
                         refine pure_ (i := 1) (N := some 129) (v := ?_) (a' := ?_) #[true, true, false, false, false, false, false, false, false, false, false, false, false, false, false, false, false, false] rfl rfl (any_of HT_.out (by kernel_rfl)) (fun _ _ _ h => h) (Or.inl ⟨by rfl, ?_⟩) ?_ ?_
                         rotate_left
                         ·intro w'
                          go_simp
                          with_reducible rfl
                         rotate_left
                         ·simp only [Act.put, qs1, qs2, qs3, i64_w, i32_w]
                          rfl
                         refine pure_ (i := 2) (N := some 130) (v := ?_) (a' := ?_) #[true, true, true, false, false, false, false, false, false, false, false, false, false, false, false, false, false, false] rfl rfl (any_of HT_.out (by kernel_rfl)) (fun _ _ _ h => h) (Or.inl ⟨by rfl, ?_⟩) ?_ ?_
                         rotate_left
                         ·intro w'
                          go_simp
                          with_reducible rfl
                         rotate_left
                         ·simp only [Act.put, qs1, qs2, qs3, i64_w, i32_w]
                          rfl
                         refine pure_ (i := 3) (N := some 131) (v := ?_) (a' := ?_) #[true, true, true, true, false, false, false, false, false, false, false, false, false, false, false, false, false, false] rfl rfl (any_of HT_.out (by kernel_rfl)) (fun _ _ _ h => h) (Or.inl ⟨by rfl, ?_⟩) ?_ ?_
                         rotate_left
                         ·intro w'
                          go_simp
                          with_reducible rfl
                         rotate_left
                         ·simp only [Act.put, qs1, qs2, qs3, i64_w, i32_w]
                          rfl
                         refine pure_ (i := 4) (N := some 132) (v := ?_) (a' := ?_) #[true, true, true, true, true, false, false, false, false, false, false, false, false, false, false, false, false, false] rfl rfl (any_of HT_.out (by kernel_rfl)) (fun _ _ _ h => h) (Or.inl ⟨by rfl, ?_⟩) ?_ ?_
                         rotate_left
                         ·intro w'
                          go_simp
                          with_reducible rfl
                         rotate_left
                         ·simp only [Act.put, qs1, qs2, qs3, i64_w, i32_w]
                          rfl
                         refine pure_ (i := 6) (N := some 134) (v := ?_) (a' := ?_) #[true, true, true, true, true, false, true, false, false, false, false, false, false, false, false, false, false, false] rfl rfl (any_of HT_.out (by kernel_rfl)) (fun _ _ _ h => h) (Or.inl ⟨by rfl, ?_⟩) ?_ ?_
                         rotate_left
                         ·intro w'
                          go_simp
                          with_reducible rfl
                         rotate_left
                         ·simp only [Act.put, qs1, qs2, qs3, i64_w, i32_w]
                          rfl
                         refine pure_ (i := 10) (N := some 138) (v := ?_) (a' := ?_) #[true, true, true, true, true, false, true, false, false, false, true, false, false, false, false, false, false, false] rfl rfl (any_of HT_.out (by kernel_rfl)) (fun _ _ _ h => h) (Or.inl ⟨by rfl, ?_⟩) ?_ ?_
                         rotate_left
                         ·intro w'
                          go_simp
                          with_reducible rfl
                         rotate_left
                         ·simp only [Act.put, qs1, qs2, qs3, i64_w, i32_w]
                          rfl
                         refine pure_ (i := 12) (N := some 140) (v := ?_) (a' := ?_) #[true, true, true, true, true, false, true, false, false, false, true, false, true, false, false, false, false, false] rfl rfl (any_of HT_.out (by kernel_rfl)) (fun _ _ _ h => h) (Or.inl ⟨by rfl, ?_⟩) ?_ ?_
                         rotate_left
                         ·intro w'
                          go_simp
                          with_reducible rfl
                         rotate_left
                         ·simp only [Act.put, qs1, qs2, qs3, i64_w, i32_w]
                          rfl
                         refine take_ (i := 5) (N := some 133) (v := ?_) (a' := ?_) #[true, true, true, true, true, true, true, false, false, false, true, false, true, false, false, false, false, false] rfl rfl (take_ofW HT_.out HW_.out (by kernel_rfl)) (fun _ _ _ h => h) (Or.inl ⟨by rfl, ?_⟩) hHeld ?_ ?_
                         rotate_left
                         ·rintro w' ⟨s0, s1, s2, s3, s4, s5, s6, s7, s8⟩
                          go_simp
                          with_reducible rfl
                         rotate_left
                         ·simp only [Act.put, qs1, qs2, qs3, i64_w, i32_w]
                          rfl
                         refine pure_ (i := 7) (N := some 135) (v := ?_) (a' := ?_) #[true, true, true, true, true, true, true, true, false, false, true, false, true, false, false, false, false, false] rfl rfl (any_of HT_.out (by kernel_rfl)) (fun _ _ _ h => h) (Or.inl ⟨by rfl, ?_⟩) ?_ ?_
                         rotate_left
                         ·intro w'
                          go_simp
                          with_reducible rfl
                         rotate_left
                         ·simp only [Act.put, qs1, qs2, qs3, i64_w, i32_w]
                          rfl
                         refine pure_ (i := 8) (N := some 136) (v := ?_) (a' := ?_) #[true, true, true, true, true, true, true, true, true, false, true, false, true, false, false, false, false, false] rfl rfl (any_of HT_.out (by kernel_rfl)) (fun _ _ _ h => h) (Or.inl ⟨by rfl, ?_⟩) ?_ ?_
                         rotate_left
                         ·intro w'
                          go_simp
                          with_reducible rfl
                         rotate_left
                         ·simp only [Act.put, qs1, qs2, qs3, i64_w, i32_w]
                          rfl
                         refine take_ (i := 9) (N := some 137) (v := ?_) (a' := ?_) #[true, true, true, true, true, true, true, true, true, true, true, false, true, false, false, false, false, false] rfl rfl (take_ofW HT_.out HW_.out (by kernel_rfl)) (fun _ _ _ h => h) (Or.inl ⟨by rfl, ?_⟩) hHeld ?_ ?_
                         rotate_left
                         ·rintro w' ⟨s0, s1, s2, s3, s4, s5, s6, s7, s8⟩
                          go_simp
                          with_reducible rfl
                         rotate_left
                         ·simp only [Act.put, qs1, qs2, qs3, i64_w, i32_w]
                          rfl
                         refine take_ (i := 11) (N := some 139) (v := ?_) (a' := ?_) #[true, true, true, true, true, true, true, true, true, true, true, true, true, false, false, false, false, false] rfl rfl (take_ofW HT_.out HW_.out (by kernel_rfl)) (fun _ _ _ h => h) (Or.inl ⟨by rfl, ?_⟩) hHeld ?_ ?_
                         rotate_left
                         ·rintro w' ⟨s0, s1, s2, s3, s4, s5, s6, s7, s8⟩
                          go_simp
                          with_reducible rfl
                         rotate_left
                         ·simp only [Act.put, qs1, qs2, qs3, i64_w, i32_w]
                          rfl
                         refine pure_ (i := 13) (N := some 141) (v := ?_) (a' := ?_) #[true, true, true, true, true, true, true, true, true, true, true, true, true, true, false, false, false, false] rfl rfl (any_of HT_.out (by kernel_rfl)) (fun _ _ _ h => h) (Or.inl ⟨by rfl, ?_⟩) ?_ ?_
                         rotate_left
                         ·intro w'
                          go_simp
                          with_reducible rfl
                         rotate_left
                         ·simp only [Act.put, qs1, qs2, qs3, i64_w, i32_w]
                          rfl
                         refine pure_ (i := 14) (N := some 142) (v := ?_) (a' := ?_) #[true, true, true, true, true, true, true, true, true, true, true, true, true, true, true, false, false, false] rfl rfl (any_of HT_.out (by kernel_rfl)) (fun _ _ _ h => h) (Or.inl ⟨by rfl, ?_⟩) ?_ ?_
                         rotate_left
                         ·intro w'
                          go_simp
                          with_reducible rfl
                         rotate_left
                         ·simp only [Act.put, qs1, qs2, qs3, i64_w, i32_w]
                          rfl
                         refine take_ (i := 15) (N := some 143) (v := ?_) (a' := ?_) #[true, true, true, true, true, true, true, true, true, true, true, true, true, true, true, true, false, false] rfl rfl (take_ofW HT_.out HW_.out (by kernel_rfl)) (fun _ _ _ h => h) (Or.inl ⟨by rfl, ?_⟩) hHeld ?_ ?_
                         rotate_left
                         ·rintro w' ⟨s0, s1, s2, s3, s4, s5, s6, s7, s8⟩
                          go_simp
                          with_reducible rfl
                         rotate_left
                         ·simp only [Act.put, qs1, qs2, qs3, i64_w, i32_w]
                          rfl
                         refine pure_ (i := 16) (N := some 144) (v := ?_) (a' := ?_) #[true, true, true, true, true, true, true, true, true, true, true, true, true, true, true, true, true, false] rfl rfl (any_of HT_.out (by kernel_rfl)) (fun _ _ _ h => h) (Or.inl ⟨by rfl, ?_⟩) ?_ ?_
                         rotate_left
                         ·intro w'
                          go_simp
                          with_reducible rfl
                         rotate_left
                         ·simp only [Act.put, qs1, qs2, qs3, i64_w, i32_w]
                          rfl
                         refine pure_ (i := 17) (N := some 145) (v := ?_) (a' := ?_) #[true, true, true, true, true, true, true, true, true, true, true, true, true, true, true, true, true, true] rfl rfl (any_of HT_.out (by kernel_rfl)) (fun _ _ _ h => h) (Or.inl ⟨by rfl, ?_⟩) ?_ ?_
                         rotate_left
                         ·intro w'
                          go_simp
                          with_reducible rfl
                         rotate_left
                         ·simp only [Act.put, qs1, qs2, qs3, i64_w, i32_w]
                          rfl
                         refine done_ (done_of HT_.out (by kernel_rfl)) ?_
                         try go_wp2
                         go_roundg kj65
                         case measure => have := HJ3.out; have := HK2.out; have := HJ21.out; have := HJ35.out; have := HJ65.out; omega
                         case rel => exact ⟨(((rd_T32 l0_1 (rd l2 x9_2)).f1)), (x8_35), (wrap64 (x9_2 + 1)), (by first | rfl | (simp; done) | (simp [*]; done)), (by first | rfl | (simp; done) | (simp [*]; done)), H', ⟨by have := HJ3.out; have := HK2.out; have := HJ21.out; have := HJ35.out; have := HJ65.out; omega⟩, ⟨by (with_reducible repeat (first | apply qk1 | apply qk2 | apply qk3)); exact HO_8.out⟩, ⟨by (with_reducible repeat (first | refine qb3 ?_ _ | refine qb5 ?_ | refine qb4 ?_ _)); exact BK261.out⟩, ⟨by repeat (first | (with_reducible first | exact HB.out | apply qw1 | apply qw2 | apply qw3 | refine qw4 ?_ GE261.out | refine qw4 ?_ GE271.out) | exact HB.out)⟩⟩
                        ·rw [if_neg c90] at H
                         have c90b0 : (((rd_T35 l0_0 ((rd_T32 l0_1 (rd l2 x9_2)).f1)).f0) == ((rd_T35 l0_0 a1).f0)) = false := beq_eq_false_iff_ne.mpr c90
                         have c90b1 : (((rd_T35 l0_0 ((rd_T32 l0_1 (rd l2 x9_2)).f1)).f0) != ((rd_T35 l0_0 a1).f0)) = true := bne_iff_ne.mpr c90
                         exact absurd H (by simp)
                       ·rw [if_neg c89] at H
                        exact absurd H (by simp)
                      ·rw [if_neg c88] at H
                       exact absurd H (by simp)
                     ·rw [if_neg c87] at H
                      exact absurd H (by simp)
                    ·rw [if_neg c86] at H
                     exact absurd H (by simp)
                   ·rw [if_neg c85] at H
                    have c85b0 : ((x8_35.length : Int) == 0) = false := beq_eq_false_iff_ne.mpr c85
                    have c85b1 : ((x8_35.length : Int) != 0) = true := bne_iff_ne.mpr c85
                    have c85b2 : ¬ (x8_35 = []) := fun h_ => c85 (by rw [h_]; rfl)
                    have H' := qam H
                    clear H
                    try go_wp2
                    have n0_ := qam (qk3 HO_8.out)
                    have n1_ := qam (qb5 BK261.out)
                    have n2_ := qam (qb5 BK271.out)
                    have n3_ := qam (qw3 HB.out)
                    clear HO_8
                    clear BK261
                    clear BK271
                    clear HB
                    have HO_8 := n0_
                    have BK261 := n1_
                    have BK271 := n2_
                    have HB := n3_
                    clear n0_ n1_ n2_ n3_
                    obtain ⟨Ao96, co96, eo96⟩ := Kd.R_slice HO_8.out
                    (first | subst eo96 | (injection eo96 with f1_ f2_ f3_; have f4_ := f1_.symm; have f5_ := f3_.symm; clear f1_ f2_ f3_; subst f4_; subst f5_))
                    refine start_ (n := 18) (S := fun w' => True) (ds := []) #[false, false, false, false, false, false, false, false, false, false, false, false, false, false, false, false, false, false] (by kernel_rfl) rfl rfl trivial (fun hHeld => ?_); refine with_tabW dataflowlaw28_VpathMatch.tab22 dataflowlaw28_VpathMatch.bits22 (fun HT_ HW_ => ?_)
                    generalize wc.drew = w95 at HO_8 BK261 BK271 HB hHeld ⊢
                    refine pure_ (i := 0) (N := some 128) (v := ?_) (a' := ?_) #[true, false, false, false, false, false, false, false, false, false, false, false, false, false, false, false, false, false] rfl rfl (any_of HT_.out (by kernel_rfl)) (fun _ _ _ h => h) (Or.inl ⟨by rfl, ?_⟩) ?_ ?_
                    rotate_left
                    ·intro w'
                     go_simp
                     with_reducible rfl
                    rotate_left
                    ·simp only [Act.put, qs1, qs2, qs3, i64_w, i32_w]
                     rfl
                    refine pure_ (i := 1) (N := some 129) (v := ?_) (a' := ?_) #[true, true, false, false, false, false, false, false, false, false, false, false, false, false, false, false, false, false] rfl rfl (any_of HT_.out (by kernel_rfl)) (fun _ _ _ h => h) (Or.inl ⟨by rfl, ?_⟩) ?_ ?_
                    rotate_left
                    ·intro w'
                     go_simp
                     with_reducible rfl
                    rotate_left
                    ·simp only [Act.put, qs1, qs2, qs3, i64_w, i32_w]
                     rfl
                    refine pure_ (i := 2) (N := some 130) (v := ?_) (a' := ?_) #[true, true, true, false, false, false, false, false, false, false, false, false, false, false, false, false, false, false] rfl rfl (any_of HT_.out (by kernel_rfl)) (fun _ _ _ h => h) (Or.inl ⟨by rfl, ?_⟩) ?_ ?_
                    rotate_left
                    ·intro w'
                     go_simp
                     with_reducible rfl
                    rotate_left
                    ·simp only [Act.put, qs1, qs2, qs3, i64_w, i32_w]
                     rfl
                    refine pure_ (i := 3) (N := some 131) (v := ?_) (a' := ?_) #[true, true, true, true, false, false, false, false, false, false, false, false, false, false, false, false, false, false] rfl rfl (any_of HT_.out (by kernel_rfl)) (fun _ _ _ h => h) (Or.inl ⟨by rfl, ?_⟩) ?_ ?_
                    rotate_left
                    ·intro w'
                     go_simp
                     with_reducible rfl
                    rotate_left
                    ·simp only [Act.put, qs1, qs2, qs3, i64_w, i32_w]
                     rfl
                    refine pure_ (i := 4) (N := some 132) (v := undef) (a' := ?_) #[true, true, true, true, true, false, false, false, false, false, false, false, false, false, false, false, false, false] rfl rfl (any_of HT_.out (by kernel_rfl)) (fun _ _ _ h => h) (Or.inr ⟨by rfl, rfl⟩) ?_ ?_
                    rotate_left
                    ·simp only [Act.put, qs1, qs2, qs3, i64_w, i32_w]
                     rfl
                    refine pure_ (i := 5) (N := some 133) (v := undef) (a' := ?_) #[true, true, true, true, true, true, false, false, false, false, false, false, false, false, false, false, false, false] rfl rfl (any_of HT_.out (by kernel_rfl)) (fun _ _ _ h => h) (Or.inr ⟨by rfl, rfl⟩) ?_ ?_
                    rotate_left
                    ·simp only [Act.put, qs1, qs2, qs3, i64_w, i32_w]
                     rfl
                    refine pure_ (i := 6) (N := some 134) (v := undef) (a' := ?_) #[true, true, true, true, true, true, true, false, false, false, false, false, false, false, false, false, false, false] rfl rfl (any_of HT_.out (by kernel_rfl)) (fun _ _ _ h => h) (Or.inr ⟨by rfl, rfl⟩) ?_ ?_
                    rotate_left
                    ·simp only [Act.put, qs1, qs2, qs3, i64_w, i32_w]
                     rfl
                    refine pure_ (i := 7) (N := some 135) (v := undef) (a' := ?_) #[true, true, true, true, true, true, true, true, false, false, false, false, false, false, false, false, false, false] rfl rfl (any_of HT_.out (by kernel_rfl)) (fun _ _ _ h => h) (Or.inr ⟨by rfl, rfl⟩) ?_ ?_
                    rotate_left
                    ·simp only [Act.put, qs1, qs2, qs3, i64_w, i32_w]
                     rfl
                    refine pure_ (i := 8) (N := some 136) (v := undef) (a' := ?_) #[true, true, true, true, true, true, true, true, true, false, false, false, false, false, false, false, false, false] rfl rfl (any_of HT_.out (by kernel_rfl)) (fun _ _ _ h => h) (Or.inr ⟨by rfl, rfl⟩) ?_ ?_
                    rotate_left
                    ·simp only [Act.put, qs1, qs2, qs3, i64_w, i32_w]
                     rfl
                    refine pure_ (i := 9) (N := some 137) (v := undef) (a' := ?_) #[true, true, true, true, true, true, true, true, true, true, false, false, false, false, false, false, false, false] rfl rfl (any_of HT_.out (by kernel_rfl)) (fun _ _ _ h => h) (Or.inr ⟨by rfl, rfl⟩) ?_ ?_
                    rotate_left
                    ·simp only [Act.put, qs1, qs2, qs3, i64_w, i32_w]
                     rfl
                    refine pure_ (i := 10) (N := some 138) (v := undef) (a' := ?_) #[true, true, true, true, true, true, true, true, true, true, true, false, false, false, false, false, false, false] rfl rfl (any_of HT_.out (by kernel_rfl)) (fun _ _ _ h => h) (Or.inr ⟨by rfl, rfl⟩) ?_ ?_
                    rotate_left
                    ·simp only [Act.put, qs1, qs2, qs3, i64_w, i32_w]
                     rfl
                    refine pure_ (i := 11) (N := some 139) (v := undef) (a' := ?_) #[true, true, true, true, true, true, true, true, true, true, true, true, false, false, false, false, false, false] rfl rfl (any_of HT_.out (by kernel_rfl)) (fun _ _ _ h => h) (Or.inr ⟨by rfl, rfl⟩) ?_ ?_
                    rotate_left
                    ·simp only [Act.put, qs1, qs2, qs3, i64_w, i32_w]
                     rfl
                    refine pure_ (i := 12) (N := some 140) (v := undef) (a' := ?_) #[true, true, true, true, true, true, true, true, true, true, true, true, true, false, false, false, false, false] rfl rfl (any_of HT_.out (by kernel_rfl)) (fun _ _ _ h => h) (Or.inr ⟨by rfl, rfl⟩) ?_ ?_
                    rotate_left
                    ·simp only [Act.put, qs1, qs2, qs3, i64_w, i32_w]
                     rfl
                    refine pure_ (i := 13) (N := some 141) (v := undef) (a' := ?_) #[true, true, true, true, true, true, true, true, true, true, true, true, true, true, false, false, false, false] rfl rfl (any_of HT_.out (by kernel_rfl)) (fun _ _ _ h => h) (Or.inr ⟨by rfl, rfl⟩) ?_ ?_
                    rotate_left
                    ·simp only [Act.put, qs1, qs2, qs3, i64_w, i32_w]
                     rfl
                    refine pure_ (i := 14) (N := some 142) (v := undef) (a' := ?_) #[true, true, true, true, true, true, true, true, true, true, true, true, true, true, true, false, false, false] rfl rfl (any_of HT_.out (by kernel_rfl)) (fun _ _ _ h => h) (Or.inr ⟨by rfl, rfl⟩) ?_ ?_
                    rotate_left
                    ·simp only [Act.put, qs1, qs2, qs3, i64_w, i32_w]
                     rfl
                    refine pure_ (i := 15) (N := some 143) (v := undef) (a' := ?_) #[true, true, true, true, true, true, true, true, true, true, true, true, true, true, true, true, false, false] rfl rfl (any_of HT_.out (by kernel_rfl)) (fun _ _ _ h => h) (Or.inr ⟨by rfl, rfl⟩) ?_ ?_
                    rotate_left
                    ·simp only [Act.put, qs1, qs2, qs3, i64_w, i32_w]
                     rfl
                    refine pure_ (i := 16) (N := some 144) (v := undef) (a' := ?_) #[true, true, true, true, true, true, true, true, true, true, true, true, true, true, true, true, true, false] rfl rfl (any_of HT_.out (by kernel_rfl)) (fun _ _ _ h => h) (Or.inr ⟨by rfl, rfl⟩) ?_ ?_
                    rotate_left
                    ·simp only [Act.put, qs1, qs2, qs3, i64_w, i32_w]
                     rfl
                    refine pure_ (i := 17) (N := some 145) (v := ?_) (a' := ?_) #[true, true, true, true, true, true, true, true, true, true, true, true, true, true, true, true, true, true] rfl rfl (any_of HT_.out (by kernel_rfl)) (fun _ _ _ h => h) (Or.inl ⟨by rfl, ?_⟩) ?_ ?_
                    rotate_left
                    ·intro w'
                     go_simp
                     with_reducible rfl
                    rotate_left
                    ·simp only [Act.put, qs1, qs2, qs3, i64_w, i32_w]
                     rfl
                    refine done_ (done_of HT_.out (by kernel_rfl)) ?_
                    try go_wp2
                    go_roundg kj65
                    case measure => have := HJ3.out; have := HK2.out; have := HJ21.out; have := HJ35.out; have := HJ65.out; omega
                    case rel => exact ⟨(((rd_T32 l0_1 (rd l2 x9_2)).f1)), (x8_35), (wrap64 (x9_2 + 1)), (by first | rfl | (simp; done) | (simp [*]; done)), (by first | rfl | (simp; done) | (simp [*]; done)), H', ⟨by have := HJ3.out; have := HK2.out; have := HJ21.out; have := HJ35.out; have := HJ65.out; omega⟩, ⟨by (with_reducible repeat (first | apply qk1 | apply qk2 | apply qk3)); exact HO_8.out⟩, ⟨by (with_reducible repeat (first | refine qb3 ?_ _ | refine qb5 ?_ | refine qb4 ?_ _)); exact BK261.out⟩, ⟨by repeat (first | (with_reducible first | exact HB.out | apply qw1 | apply qw2 | apply qw3 | refine qw4 ?_ GE261.out | refine qw4 ?_ GE271.out) | exact HB.out)⟩⟩
             ·rw [if_neg c35] at H
              exact absurd H (by simp)
            ·rw [if_neg c34] at H
             exact absurd H (by simp)
           ·rw [if_neg c33] at H
            exact absurd H (by simp)
          ·rw [if_neg c32] at H
           exact absurd H (by simp)
      ·rw [if_neg c21] at H
       have c21b0 : decide (x9_2 < (l2.length : Int)) = false := decide_eq_false c21
       clear c21
       replace H := Option.bind_eq_some_iff.mp H
       obtain ⟨⟨t285, t288⟩, A970, H⟩ := H
       replace H : ((vpath_End.f k2 l0_0 l0_1 a0_2 a1 l2).bind fun bt289 => (if t288 = 0 then (if bt289.2 = 0 then (if bt289.1 = x7_2 then ((dataflowref27_Equal.f k2 t285 x8_2).bind fun t291 => (if t291 = true then ((dataflowlaw28_awake.f k2).bind fun t292 => (some t292)) else (some false))) else (some false)) else (some false)) else (some false))) = some true := H
       have A97 := qam A970
       clear A970
       replace H := Option.bind_eq_some_iff.mp H
       obtain ⟨⟨t289, t290⟩, A980, H⟩ := H
       replace H : (if t288 = 0 then (if t290 = 0 then (if t289 = x7_2 then ((dataflowref27_Equal.f k2 t285 x8_2).bind fun t291 => (if t291 = true then ((dataflowlaw28_awake.f k2).bind fun t292 => (some t292)) else (some false))) else (some false)) else (some false)) else (some false)) = some true := H
       have A98 := qam A980
       clear A980
       by_cases c99 : t288 = 0
       ·rw [if_pos c99] at H
        have c99b0 : (t288 == 0) = true := beq_iff_eq.mpr c99
        have c99b1 : (t288 != 0) = false := bne_eq_false_iff_eq.mpr c99
        clear c99
        by_cases c100 : t290 = 0
        ·rw [if_pos c100] at H
         have c100b0 : (t290 == 0) = true := beq_iff_eq.mpr c100
         have c100b1 : (t290 != 0) = false := bne_eq_false_iff_eq.mpr c100
         clear c100
         by_cases c101 : t289 = x7_2
         ·rw [if_pos c101] at H
          have c101b0 : (t289 == x7_2) = true := beq_iff_eq.mpr c101
          have c101b1 : (t289 != x7_2) = false := bne_eq_false_iff_eq.mpr c101
          clear c101
          replace H := Option.bind_eq_some_iff.mp H
          obtain ⟨t291, A1020, H⟩ := H
          replace H : (if t291 = true then ((dataflowlaw28_awake.f k2).bind fun t292 => (some t292)) else (some false)) = some true := H
          have A102 := qam A1020
          clear A1020
          by_cases c103 : t291 = true
          ·subst c103
           have H1 : ((dataflowlaw28_awake.f k2).bind fun t292 => (some t292)) = some true := by rw [if_pos rfl] at H; exact H
           clear H
           have H := H1
           clear H1
           replace H := Option.bind_eq_some_iff.mp H
           obtain ⟨t292, A1040, H⟩ := H
           replace H : (some t292) = some true := H
           have A104 := qam A1040
           clear A1040
           obtain rfl := Option.some.inj H
           have hcz105_0 : wr.cell? ⟨gb261, 0, none⟩ = some (.slice A0_0 l0_0.length c0_0) := (qb1 BK261.out 0).trans rfl
           have hcz105_1 : wr.cell? ⟨gb261, 1, none⟩ = some (.slice A0_1 l0_1.length c0_1) := (qb1 BK261.out 1).trans rfl
           have hcz105_2 : wr.cell? ⟨gb261, 2, none⟩ = some (.int .i64 a0_2) := (qb1 BK261.out 2).trans rfl
           have hfz105_0 := qb2 BK261.out 0
           have hfz105_1 := qb2 BK261.out 1
           have hfz105_2 := qb2 BK261.out 2
           go_wp2_with (first | ((with_reducible refine gate_callee (f := 18) rfl ?_); refine goesL_ (some 150) rfl rfl Try.func18 (by kernel_rfl) rfl #[.agg #[.slice A0_0 l0_0.length c0_0, .slice A0_1 l0_1.length c0_1, .int .i64 a0_2], .int .i64 a1, .slice A2 l2.length c2] rfl (by (try simp only [List.map_toArray, List.map_cons, List.map_nil]); first | done | rfl | (simp only [List.length_drop, List.length_take]; rfl)) ?_; (with_reducible refine (vpath_Stack.calls k2 _ _ l0_0 _ _ l0_1 a0_2 a1 _ _ l2 t285 t288 _ ?side1 ?side2 ?side3 ?side4 ?side5 ?side6 A97.out).mono ?_); (case side1 => repeat (first | exact (qk4 HR0_0.out HB.out) | (with_reducible refine Kd.C_alloc ?_ _) | (with_reducible refine Kd.C_drewN ?_ _) | (with_reducible refine Kd.C_drew ?_))); (case side2 => exact HC0_0.out); (case side3 => repeat (first | exact (qk4 HR0_1.out HB.out) | (with_reducible refine Kd.C_alloc ?_ _) | (with_reducible refine Kd.C_drewN ?_ _) | (with_reducible refine Kd.C_drew ?_))); (case side4 => exact HC0_1.out); (case side5 => repeat (first | exact (qk4 HR2.out HB.out) | (with_reducible refine Kd.C_alloc ?_ _) | (with_reducible refine Kd.C_drewN ?_ _) | (with_reducible refine Kd.C_drew ?_))); (case side6 => exact HC2.out); rintro e w106 ⟨v286, rfl, ho0, hb⟩; refine ⟨_, rfl, ?_⟩; have n0_ := qam (Kd.R_elder' (by (with_reducible repeat (first | apply qk1 | apply qk2 | apply qk3)); exact HO_8.out) (Kd.R_base ho0) hb); have n1_ := qam (Kd.R_lower (Kd.R_new' ho0 (Kd.R_lt (by (with_reducible repeat (first | apply qk1 | apply qk2 | apply qk3)); exact HO_8.out))) (qw5 (by repeat (first | (with_reducible first | exact HB.out | apply qw1 | apply qw2 | apply qw3 | refine qw4 ?_ GE261.out) | exact HB.out)))); have n2_ := qam (blk_below (g := gb261) (o := .cells #[.slice A0_0 l0_0.length c0_0, .slice A0_1 l0_1.length c0_1, .int .i64 a0_2] 25 (0, 0)) (by (with_reducible repeat (first | refine qb3 ?_ _ | refine qb5 ?_ | refine qb4 ?_ _)); exact BK261.out) hb); have n3_ := qam (qw6 (by repeat (first | (with_reducible first | exact HB.out | apply qw1 | apply qw2 | apply qw3 | refine qw4 ?_ GE261.out) | exact HB.out)) hb); clear HO_8; clear BK261; clear HB; have HO_8 := n0_; have HO287 := n1_; have BK261 := n2_; have HB := n3_; clear n0_ n1_ n2_ n3_; (try clear hb); (try clear hb2); (try clear hk); (try clear hi); (try clear ho0); have hcz107_0 : w106.cell? ⟨gb261, 0, none⟩ = some (.slice A0_0 l0_0.length c0_0) := (qb1 BK261.out 0).trans rfl; have hcz107_1 : w106.cell? ⟨gb261, 1, none⟩ = some (.slice A0_1 l0_1.length c0_1) := (qb1 BK261.out 1).trans rfl; have hcz107_2 : w106.cell? ⟨gb261, 2, none⟩ = some (.int .i64 a0_2) := (qb1 BK261.out 2).trans rfl; have hfz107_0 := qb2 BK261.out 0; have hfz107_1 := qb2 BK261.out 1; have hfz107_2 := qb2 BK261.out 2) | ((with_reducible refine gate_callee (f := 19) rfl ?_); refine goesL_ (some 157) rfl rfl Try.func19 (by kernel_rfl) rfl #[.agg #[.slice A0_0 l0_0.length c0_0, .slice A0_1 l0_1.length c0_1, .int .i64 a0_2], .int .i64 a1, .slice A2 l2.length c2] rfl (by (try simp only [List.map_toArray, List.map_cons, List.map_nil]); first | done | rfl | (simp only [List.length_drop, List.length_take]; rfl)) ?_; (with_reducible refine (vpath_End.calls k2 _ _ l0_0 _ _ l0_1 a0_2 a1 _ _ l2 t289 t290 _ ?side1 ?side2 ?side3 ?side4 ?side5 ?side6 A98.out).mono ?_); (case side1 => repeat (first | exact (qk4 HR0_0.out HB.out) | (with_reducible refine Kd.C_alloc ?_ _) | (with_reducible refine Kd.C_drewN ?_ _) | (with_reducible refine Kd.C_drew ?_))); (case side2 => exact HC0_0.out); (case side3 => repeat (first | exact (qk4 HR0_1.out HB.out) | (with_reducible refine Kd.C_alloc ?_ _) | (with_reducible refine Kd.C_drewN ?_ _) | (with_reducible refine Kd.C_drew ?_))); (case side4 => exact HC0_1.out); (case side5 => repeat (first | exact (qk4 HR2.out HB.out) | (with_reducible refine Kd.C_alloc ?_ _) | (with_reducible refine Kd.C_drewN ?_ _) | (with_reducible refine Kd.C_drew ?_))); (case side6 => exact HC2.out); rintro e w108 ⟨rfl, hb⟩; refine ⟨_, rfl, ?_⟩; have n0_ := qam (Kd.R_below (by (with_reducible repeat (first | apply qk1 | apply qk2 | apply qk3)); exact HO_8.out) hb); have n1_ := qam (Kd.R_below (by (with_reducible repeat (first | apply qk1 | apply qk2 | apply qk3)); exact HO287.out) hb); have n2_ := qam (blk_below (g := gb261) (o := .cells #[.slice A0_0 l0_0.length c0_0, .slice A0_1 l0_1.length c0_1, .int .i64 a0_2] 25 (0, 0)) (by (with_reducible repeat (first | refine qb3 ?_ _ | refine qb5 ?_ | refine qb4 ?_ _)); exact BK261.out) hb); have n3_ := qam (qw6 (by repeat (first | (with_reducible first | exact HB.out | apply qw1 | apply qw2 | apply qw3 | refine qw4 ?_ GE261.out) | exact HB.out)) hb); clear HO_8; clear HO287; clear BK261; clear HB; have HO_8 := n0_; have HO287 := n1_; have BK261 := n2_; have HB := n3_; clear n0_ n1_ n2_ n3_; (try clear hb); (try clear hb2); (try clear hk); (try clear hi); obtain ⟨Ao109, co109, eo109⟩ := Kd.R_slice HO287.out; subst eo109; obtain ⟨Ao110, co110, eo110⟩ := Kd.R_slice HO_8.out; subst eo110) | (go_at_call 20; (with_reducible refine (dataflowref27_Equal.calls k2 _ _ t285 _ _ x8_2 true _ ?side1 ?side2 ?side3 ?side4 A102.out).mono ?_); (case side1 => repeat (first | exact (Kd.R_reads' HO287.out).2.2 | (with_reducible refine Kd.C_alloc ?_ _) | (with_reducible refine Kd.C_drewN ?_ _) | (with_reducible refine Kd.C_drew ?_))); (case side2 => exact (Kd.R_reads' HO287.out).2.1); (case side3 => repeat (first | exact (Kd.R_reads' HO_8.out).2.2 | (with_reducible refine Kd.C_alloc ?_ _) | (with_reducible refine Kd.C_drewN ?_ _) | (with_reducible refine Kd.C_drew ?_))); (case side4 => exact (Kd.R_reads' HO_8.out).2.1); rintro e w' ⟨rfl, ⟨nd, rfl⟩⟩) | (go_at_call 16; (with_reducible refine (dataflowlaw28_awake.calls k2  true _ A104.out).mono ?_); rintro e w111 ⟨rfl, hb⟩; have n0_ := qam (Kd.R_below (by (with_reducible repeat (first | apply qk1 | apply qk2 | apply qk3)); exact HO_8.out) hb); have n1_ := qam (Kd.R_below (by (with_reducible repeat (first | apply qk1 | apply qk2 | apply qk3)); exact HO287.out) hb); have n2_ := qam (blk_below (g := gb261) (o := .cells #[.slice A0_0 l0_0.length c0_0, .slice A0_1 l0_1.length c0_1, .int .i64 a0_2] 25 (0, 0)) (by (with_reducible repeat (first | refine qb3 ?_ _ | refine qb5 ?_ | refine qb4 ?_ _)); exact BK261.out) hb); have n3_ := qam (qw6 (by repeat (first | (with_reducible first | exact HB.out | apply qw1 | apply qw2 | apply qw3 | refine qw4 ?_ GE261.out) | exact HB.out)) hb); clear HO_8; clear HO287; clear BK261; clear HB; have HO_8 := n0_; have HO287 := n1_; have BK261 := n2_; have HB := n3_; clear n0_ n1_ n2_ n3_; (try clear hb); (try clear hb2); (try clear hk); (try clear hi)))
           go_ret
           exact ⟨by first | rfl | (simp [errW_none, errW_some] <;> rfl) | (simp [*, errW_none, errW_some] <;> rfl), by repeat (first | (with_reducible first | exact HB.out | apply qw1 | apply qw2 | apply qw3 | refine qw4 ?_ GE261.out) | exact HB.out)⟩
          ·replace c103 := Bool.eq_false_iff.mpr c103
           subst c103
           have H1 : (some false) = some true := by rw [if_neg (show ¬ (false = true) by decide)] at H; exact H
           clear H
           have H := H1
           clear H1
           exact absurd H (by simp)
         ·rw [if_neg c101] at H
          have c101b0 : (t289 == x7_2) = false := beq_eq_false_iff_ne.mpr c101
          have c101b1 : (t289 != x7_2) = true := bne_iff_ne.mpr c101
          exact absurd H (by simp)
        ·rw [if_neg c100] at H
         have c100b0 : (t290 == 0) = false := beq_eq_false_iff_ne.mpr c100
         have c100b1 : (t290 != 0) = true := bne_iff_ne.mpr c100
         exact absurd H (by simp)
       ·rw [if_neg c99] at H
        have c99b0 : (t288 == 0) = false := beq_eq_false_iff_ne.mpr c99
        have c99b1 : (t288 != 0) = true := bne_iff_ne.mpr c99
        exact absurd H (by simp)
end Go.Proofs.Ytflpelbhalndcaa.QV
