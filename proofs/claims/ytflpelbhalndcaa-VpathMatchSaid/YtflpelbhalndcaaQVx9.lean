-- By a program of this session, out of the translation's own print.
import Derived.Test.YtflpelbhalndcaaQVg
import Derived.Test.YtflpelbhalndcaaQVx0
import Derived.Test.YtflpelbhalndcaaQVx7
import Derived.Test.YtflpelbhalndcaaQVx8
namespace Go.Proofs.Ytflpelbhalndcaa.QV
open Go.RowKit Go.Proofs.YtflpelbhalndcaaW.PrintWords Go.Proofs.YtflpelbhalndcaaW.PrintLast Go.Proofs.YtflpelbhalndcaaW.PrintMore
attribute [local go_sem] max2_int min2_int max_two min_two max_three min_three max_four min_four   -- for this text's walks alone
set_option linter.unusedVariables false
set_option linter.unusedSimpArgs false

/-! ### vpath_follow: function 51 -/
mutual
def vpath_follow.l0 : Nat → List Int → Int → Int → List (S35) → List (S32) → Int → Int → List Int → Option (Int × List Int × Int)
 | 0, _, _, _, _, _, _, _, _ => none
 | k + 1, x26, x27, x28, x176000, x176001, x176002, x183000, x183001 => if x28 < x27 then (if 0 ≤ x28 then (if x28 < (x26.length : Int) then (if (rd x26 x28) < 0 then (vpath_follow.j1 k (rd x26 x28) x26 x27 x28 true x176000 x176001 x176002 x183000 x183001) else (vpath_follow.j1 k (rd x26 x28) x26 x27 x28 (decide ((rd x26 x28) ≥ (x176001.length : Int))) x176000 x176001 x176002 x183000 x183001)) else (none)) else (none)) else (some (x183000, x183001, 0))
def vpath_follow.j1 : Nat → Int → List Int → Int → Int → Bool → List (S35) → List (S32) → Int → Int → List Int → Option (Int × List Int × Int)
 | 0, _, _, _, _, _, _, _, _, _, _ => none
 | k + 1, x11, x26, x27, x28, x32, x176000, x176001, x176002, x183000, x183001 => if x32 = true then (some (0, ([] : List Int), 4)) else (if 0 ≤ x11 then (if x11 < (x176001.length : Int) then (if ((rd_T32 x176001 x11).f0) = x183000 then ((vpath_place_allows.f x183000 x183001 ((rd_T32 x176001 x11).f0) ((rd_T32 x176001 x11).f1) ((rd_T32 x176001 x11).f2) ((rd_T32 x176001 x11).f3)).bind fun t186 => (if t186 = true then ((vpath_place_step.f x183000 x183001 ((rd_T32 x176001 x11).f0) ((rd_T32 x176001 x11).f1) ((rd_T32 x176001 x11).f2) ((rd_T32 x176001 x11).f3)).bind fun bt188 => (vpath_follow.l0 k x26 x27 (wrap64 (x28 + 1)) x176000 x176001 x176002 bt188.1 bt188.2)) else (some (0, ([] : List Int), 20)))) else (some (0, ([] : List Int), 16))) else (none)) else (none))
end
def vpath_follow.f (k : Nat) (l0_0 : List (S35)) (l0_1 : List (S32)) (a0_2 : Int) (a1 : Int) (l2 : List Int) : Option (Int × List Int × Int) := (vpath_begin.f k l0_0 l0_1 a0_2 a1).bind fun bt177 => (if bt177.2.2 = 0 then (if (l2.length : Int) > 4096 then (some (0, ([] : List Int), 3)) else (vpath_follow.l0 k l2 (l2.length : Int) 0 l0_0 l0_1 a0_2 bt177.1 bt177.2.1)) else (some (0, ([] : List Int), bt177.2.2)))
theorem vpath_follow.mono_l : ∀ k, (∀ y0 y1 y2 y3 y4 y5 y6 y7, LeO (vpath_follow.l0 k y0 y1 y2 y3 y4 y5 y6 y7) (vpath_follow.l0 (k + 1) y0 y1 y2 y3 y4 y5 y6 y7)) ∧ (∀ y0 y1 y2 y3 y4 y5 y6 y7 y8 y9, LeO (vpath_follow.j1 k y0 y1 y2 y3 y4 y5 y6 y7 y8 y9) (vpath_follow.j1 (k + 1) y0 y1 y2 y3 y4 y5 y6 y7 y8 y9))
 | 0 => ⟨fun _ _ _ _ _ _ _ _ r h => by simp [vpath_follow.l0] at h, fun _ _ _ _ _ _ _ _ _ _ r h => by simp [vpath_follow.j1] at h⟩
 | k + 1 => by
  obtain ⟨ih0, ih1⟩ := vpath_follow.mono_l k
  refine ⟨?_, ?_⟩
  ·intro y0 y1 y2 y3 y4 y5 y6 y7
   unfold vpath_follow.l0
   repeat' first
   | (with_reducible exact ih0 _ _ _ _ _ _ _ _)
   | (with_reducible exact ih1 _ _ _ _ _ _ _ _ _ _)
   | (with_reducible exact vpath_begin.mono _ _ _ _ _)
   | (with_reducible exact LeO.refl _)
   | (with_reducible exact LeO.none _)
   | (with_reducible refine LeO.ite ?_ ?_)
   | (with_reducible refine LeO.bind ?_ (fun _ => ?_))
   | exact ih0 _ _ _ _ _ _ _ _
   | exact ih1 _ _ _ _ _ _ _ _ _ _
   | exact vpath_begin.mono _ _ _ _ _
   | exact LeO.none _
   | refine LeO.ite ?_ ?_
   | refine LeO.bind ?_ (fun _ => ?_)
  ·intro y0 y1 y2 y3 y4 y5 y6 y7 y8 y9
   unfold vpath_follow.j1
   repeat' first
   | (with_reducible exact ih0 _ _ _ _ _ _ _ _)
   | (with_reducible exact ih1 _ _ _ _ _ _ _ _ _ _)
   | (with_reducible exact vpath_begin.mono _ _ _ _ _)
   | (with_reducible exact LeO.refl _)
   | (with_reducible exact LeO.none _)
   | (with_reducible refine LeO.ite ?_ ?_)
   | (with_reducible refine LeO.bind ?_ (fun _ => ?_))
   | exact ih0 _ _ _ _ _ _ _ _
   | exact ih1 _ _ _ _ _ _ _ _ _ _
   | exact vpath_begin.mono _ _ _ _ _
   | exact LeO.none _
   | refine LeO.ite ?_ ?_
   | refine LeO.bind ?_ (fun _ => ?_)
theorem vpath_follow.mono : ∀ a0 a1 a2 a3 a4 k, LeO (vpath_follow.f k a0 a1 a2 a3 a4) (vpath_follow.f (k + 1) a0 a1 a2 a3 a4) := by
 intro a0 a1 a2 a3 a4 k
 obtain ⟨ih0, ih1⟩ := vpath_follow.mono_l k
 unfold vpath_follow.f
 repeat' first
   | (with_reducible exact ih0 _ _ _ _ _ _ _ _)
   | (with_reducible exact ih1 _ _ _ _ _ _ _ _ _ _)
   | (with_reducible exact vpath_begin.mono _ _ _ _ _)
   | (with_reducible exact LeO.refl _)
   | (with_reducible exact LeO.none _)
   | (with_reducible refine LeO.ite ?_ ?_)
   | (with_reducible refine LeO.bind ?_ (fun _ => ?_))
   | exact ih0 _ _ _ _ _ _ _ _
   | exact ih1 _ _ _ _ _ _ _ _ _ _
   | exact vpath_begin.mono _ _ _ _ _
   | exact LeO.none _
   | refine LeO.ite ?_ ?_
   | refine LeO.bind ?_ (fun _ => ?_)
def vpath_follow.T11 : Bool × List (List Nat × List Nat) := (true, [([], []), ([0], [0]), ([], []), ([1, 2], [1, 2]), ([3], [3]), ([4], [4]), ([], []), ([6], [6]), ([5, 7], [5, 7]), ([8], [8])])
def vpath_follow.B11 : List Nat := [0, 1, 0, 7, 15, 31, 0, 64, 255, 511]
theorem vpath_follow.tab11 : rtab .any (opsOf Try.f51 11) = vpath_follow.T11 := by kernel_rfl
theorem vpath_follow.bits11 : waitsOk vpath_follow.T11.2 vpath_follow.B11 = true := by kernel_rfl
def vpath_follow.T13 : Bool × List (List Nat × List Nat) := (true, [([], []), ([], []), ([1], [1]), ([], []), ([2, 3], [2, 3]), ([4], [4]), ([0, 5], [0, 5]), ([6], [6]), ([7, 6], [7])])
def vpath_follow.B13 : List Nat := [0, 0, 2, 0, 14, 30, 63, 127, 255]
theorem vpath_follow.tab13 : rtab .any (opsOf Try.f51 13) = vpath_follow.T13 := by kernel_rfl
theorem vpath_follow.bits13 : waitsOk vpath_follow.T13.2 vpath_follow.B13 = true := by kernel_rfl
def vpath_follow.T15 : Bool × List (List Nat × List Nat) := (true, [([], []), ([], []), ([1], [1]), ([], []), ([2, 3], [2, 3]), ([4], [4]), ([0, 5], [0, 5]), ([6, 6, 0, 1, 2, 3, 4, 5, 6], [6])])
def vpath_follow.B15 : List Nat := [0, 0, 2, 0, 14, 30, 63, 127]
theorem vpath_follow.tab15 : rtab .any (opsOf Try.f51 15) = vpath_follow.T15 := by kernel_rfl
theorem vpath_follow.bits15 : waitsOk vpath_follow.T15.2 vpath_follow.B15 = true := by kernel_rfl
set_option maxHeartbeats 8000000 in
set_option maxRecDepth 100000 in
theorem vpath_follow.calls (k : Nat) (A0_0 : Option Addr) (c0_0 : Nat) (l0_0 : List (S35)) (A0_1 : Option Addr) (c0_1 : Nat) (l0_1 : List (S32)) (a0_2 : Int) (a1 : Int) (A2 : Option Addr) (c2 : Nat) (l2 : List Int) (r1 : Int) (r2 : List Int) (r3 : Int) (w : World) (hr0_0 : Kd.C k35 w A0_0 l0_0.length l0_0) (hc0_0 : l0_0.length ≤ c0_0) (hr0_1 : Kd.C k32 w A0_1 l0_1.length l0_1) (hc0_1 : l0_1.length ≤ c0_1) (hr2 : Kd.C (Kd.int .i64) w A2 l2.length l2) (hc2 : l2.length ≤ c2) (h : vpath_follow.f k l0_0 l0_1 a0_2 a1 l2 = some (r1, r2, r3)) :
  Calls Try.prog 51 #[.agg #[.slice A0_0 l0_0.length c0_0, .slice A0_1 l0_1.length c0_1, .int .i64 a0_2], .int .i64 a1, .slice A2 l2.length c2] w fun e w' => ∃ v1_ : Value, e = .returned (.tuple #[.agg #[.int .i64 r1, v1_], .int .i64 r3]) ∧ Kd.R (Kd.int .i64) 3 w' w.heap.size (fun _ => True) v1_ r2 ∧ Below w.heap.size w w' := by
 have hu25 := Try.underlying25
 have hu102 := Try.underlying102
 have hu32 := Try.underlying32
 have HR0_0 := qam hr0_0
 have HC0_0 := qam hc0_0
 clear hr0_0 hc0_0
 have HR0_1 := qam hr0_1
 have HC0_1 := qam hc0_1
 clear hr0_1 hc0_1
 have HR2 := qam hr2
 have HC2 := qam hc2
 clear hr2 hc2
 have HB := qam (Below.refl w.heap.size w)
 have H : ((vpath_begin.f k l0_0 l0_1 a0_2 a1).bind fun bt177 => (if bt177.2.2 = 0 then (if (l2.length : Int) > 4096 then (some (0, ([] : List Int), 3)) else (vpath_follow.l0 k l2 (l2.length : Int) 0 l0_0 l0_1 a0_2 bt177.1 bt177.2.1)) else (some (0, ([] : List Int), bt177.2.2)))) = some (r1, r2, r3) := h
 clear h
 replace H := Option.bind_eq_some_iff.mp H
 obtain ⟨⟨t177, t178, t181⟩, A40, H⟩ := H
 replace H : (if t181 = 0 then (if (l2.length : Int) > 4096 then (some (0, ([] : List Int), 3)) else (vpath_follow.l0 k l2 (l2.length : Int) 0 l0_0 l0_1 a0_2 t177 t178)) else (some (0, ([] : List Int), t181))) = some (r1, r2, r3) := H
 have A4 := qam A40
 clear A40
 by_cases c5 : t181 = 0
 ·rw [if_pos c5] at H
  have c5b0 : (t181 == 0) = true := beq_iff_eq.mpr c5
  have c5b1 : (t181 != 0) = false := bne_eq_false_iff_eq.mpr c5
  clear c5
  by_cases c6 : (l2.length : Int) > 4096
  ·rw [if_pos c6] at H
   have c6b0 : decide (4096 < (l2.length : Int)) = true := decide_eq_true c6
   have c6b1 : decide (4096 < l2.length) = true := decide_eq_true (by omega)
   clear c6
   simp only [Option.some.injEq, Prod.mk.injEq] at H
   obtain ⟨rfl, rfl, rfl⟩ := H
   go_enter Try.func51, Try.ntmps51
   go_wp2_with (first | ((with_reducible refine gate_dst (N := 3) rfl ?_); (try (refine gate_guard (by rfl) ?_; dsimp only)); refine box_event ?hg (N := 3) ?hd (cs := #[.slice A0_0 l0_0.length c0_0, .slice A0_1 l0_1.length c0_1, .int .i64 a0_2]) (t := 25) ?hr ?_; (case hd => rfl); (case hg => rfl); (case hr => first | (go_simp; done) | (go_simp; rfl)); intro gb175 hg w7 hbox hb; have n0_ := qam (qw6 (by repeat (first | (with_reducible first | exact HB.out | apply qw1 | apply qw2 | apply qw3) | exact HB.out)) hb); have n1_ := qam (hbox); have n2_ := qam ((by rw [hg]; exact (qw5 (by repeat (first | (with_reducible first | exact HB.out | apply qw1 | apply qw2 | apply qw3) | exact HB.out))) : w.heap.size ≤ gb175)); have n3_ := qam ((by rw [hg]; exact (qw5 (by repeat (first | (with_reducible first | exact HB.out | apply qw1 | apply qw2 | apply qw3) | exact HB.out))) : w.heap.size ≤ gb175)); clear HB; have HB := n0_; have BK175 := n1_; have GW175 := n2_; have GE175 := n3_; clear n0_ n1_ n2_ n3_; clear hb hbox hg) | ((with_reducible refine gate_dst (N := 6) rfl ?_); (try (refine gate_guard (by rfl) ?_; dsimp only)); refine box_event ?hg (N := 6) ?hd (cs := #[.int .i64 0, .slice none 0 0]) (t := 102) ?hr ?_; (case hd => rfl); (case hg => rfl); (case hr => first | (go_simp; done) | (go_simp; rfl)); intro gb176 hg w8 hbox hb; have n0_ := qam (blk_below (g := gb175) (o := .cells #[.slice A0_0 l0_0.length c0_0, .slice A0_1 l0_1.length c0_1, .int .i64 a0_2] 25 (0, 0)) (by (with_reducible repeat (first | refine qb3 ?_ _ | refine qb5 ?_ | refine qb4 ?_ _)); exact BK175.out) hb); have n1_ := qam (qw6 (by repeat (first | (with_reducible first | exact HB.out | apply qw1 | apply qw2 | apply qw3 | refine qw4 ?_ GE175.out) | exact HB.out)) hb); have n2_ := qam (hbox); have n3_ := qam ((by rw [hg]; exact (qw5 (by repeat (first | (with_reducible first | exact HB.out | apply qw1 | apply qw2 | apply qw3 | refine qw4 ?_ GE175.out) | exact HB.out))) : w.heap.size ≤ gb176)); have n4_ := qam ((by rw [hg]; exact (qw5 (by repeat (first | (with_reducible first | exact HB.out | apply qw1 | apply qw2 | apply qw3 | refine qw4 ?_ GE175.out) | exact HB.out))) : w.heap.size ≤ gb176)); have n5_ := qam ((by rw [hg]; exact qnn (blk_lt (g := gb175) (o := .cells #[.slice A0_0 l0_0.length c0_0, .slice A0_1 l0_1.length c0_1, .int .i64 a0_2] 25 (0, 0)) (by (with_reducible repeat (first | refine qb3 ?_ _ | refine qb5 ?_ | refine qb4 ?_ _)); exact BK175.out)) : gb175 ≠ gb176)); have n6_ := qam ((by rw [hg]; exact Nat.ne_of_gt (blk_lt (g := gb175) (o := .cells #[.slice A0_0 l0_0.length c0_0, .slice A0_1 l0_1.length c0_1, .int .i64 a0_2] 25 (0, 0)) (by (with_reducible repeat (first | refine qb3 ?_ _ | refine qb5 ?_ | refine qb4 ?_ _)); exact BK175.out)) : gb176 ≠ gb175)); clear BK175; clear HB; have BK175 := n0_; have HB := n1_; have BK176 := n2_; have GW176 := n3_; have GE176 := n4_; have NB175_176 := n5_; have NB176_175 := n6_; clear n0_ n1_ n2_ n3_ n4_ n5_ n6_; clear hb hbox hg; have hnb9 := NB175_176.out; have hnc9 := NB176_175.out; have hcz10_0 : w8.cell? ⟨gb175, 0, none⟩ = some (.slice A0_0 l0_0.length c0_0) := (qb1 BK175.out 0).trans rfl; have hcz10_1 : w8.cell? ⟨gb175, 1, none⟩ = some (.slice A0_1 l0_1.length c0_1) := (qb1 BK175.out 1).trans rfl; have hcz10_2 : w8.cell? ⟨gb175, 2, none⟩ = some (.int .i64 a0_2) := (qb1 BK175.out 2).trans rfl; have hfz10_0 := qb2 BK175.out 0; have hfz10_1 := qb2 BK175.out 1; have hfz10_2 := qb2 BK175.out 2) | ((with_reducible refine gate_callee (f := 57) rfl ?_); refine goesL_ (some 15) rfl rfl Try.func57 (by kernel_rfl) rfl #[.agg #[.slice A0_0 l0_0.length c0_0, .slice A0_1 l0_1.length c0_1, .int .i64 a0_2], .int .i64 a1] rfl (by (try simp only [List.map_toArray, List.map_cons, List.map_nil]); first | done | rfl | (simp only [List.length_drop, List.length_take]; rfl)) ?_; (with_reducible refine (vpath_begin.calls k _ _ l0_0 _ _ l0_1 a0_2 a1 t177 t178 t181 _ ?side1 ?side2 ?side3 ?side4 A4.out).mono ?_); (case side1 => repeat (first | exact (qk4 HR0_0.out HB.out) | (with_reducible refine Kd.C_alloc ?_ _) | (with_reducible refine Kd.C_drewN ?_ _) | (with_reducible refine Kd.C_drew ?_))); (case side2 => exact HC0_0.out); (case side3 => repeat (first | exact (qk4 HR0_1.out HB.out) | (with_reducible refine Kd.C_alloc ?_ _) | (with_reducible refine Kd.C_drewN ?_ _) | (with_reducible refine Kd.C_drew ?_))); (case side4 => exact HC0_1.out); rintro e w11 ⟨v179, rfl, ho0, hb⟩; refine ⟨_, rfl, ?_⟩; have n0_ := qam (Kd.R_lower ho0 (qw5 (by repeat (first | (with_reducible first | exact HB.out | apply qw1 | apply qw2 | apply qw3 | refine qw4 ?_ GE175.out | refine qw4 ?_ GE176.out) | exact HB.out)))); have n1_ := qam (blk_below (g := gb175) (o := .cells #[.slice A0_0 l0_0.length c0_0, .slice A0_1 l0_1.length c0_1, .int .i64 a0_2] 25 (0, 0)) (by (with_reducible repeat (first | refine qb3 ?_ _ | refine qb5 ?_ | refine qb4 ?_ _)); exact BK175.out) hb); have n2_ := qam (blk_below (g := gb176) (o := .cells #[.int .i64 0, .slice none 0 0] 102 (0, 0)) (by (with_reducible repeat (first | refine qb3 ?_ _ | refine qb5 ?_ | refine qb4 ?_ _)); exact BK176.out) hb); have n3_ := qam (qw6 (by repeat (first | (with_reducible first | exact HB.out | apply qw1 | apply qw2 | apply qw3 | refine qw4 ?_ GE175.out | refine qw4 ?_ GE176.out) | exact HB.out)) hb); clear BK175; clear BK176; clear HB; have HO180 := n0_; have BK175 := n1_; have BK176 := n2_; have HB := n3_; clear n0_ n1_ n2_ n3_; (try clear hb); (try clear hb2); (try clear hk); (try clear hi); (try clear ho0)) | ((with_reducible refine gate_dst (N := 8) rfl ?_); (try (refine gate_guard (by rfl) ?_; dsimp only)); refine box_event ?hg (N := 8) ?hd (cs := #[.int .i64 0, .slice none 0 0]) (t := 102) ?hr ?_; (case hd => rfl); (case hg => rfl); (case hr => first | (go_simp; done) | (go_simp; rfl)); intro gb182 hg w12 hbox hb; have n0_ := qam (Kd.R_below (by (with_reducible repeat (first | apply qk1 | apply qk2 | apply qk3)); exact HO180.out) hb); have n1_ := qam (blk_below (g := gb175) (o := .cells #[.slice A0_0 l0_0.length c0_0, .slice A0_1 l0_1.length c0_1, .int .i64 a0_2] 25 (0, 0)) (by (with_reducible repeat (first | refine qb3 ?_ _ | refine qb5 ?_ | refine qb4 ?_ _)); exact BK175.out) hb); have n2_ := qam (blk_below (g := gb176) (o := .cells #[.int .i64 0, .slice none 0 0] 102 (0, 0)) (by (with_reducible repeat (first | refine qb3 ?_ _ | refine qb5 ?_ | refine qb4 ?_ _)); exact BK176.out) hb); have n3_ := qam (qw6 (by repeat (first | (with_reducible first | exact HB.out | apply qw1 | apply qw2 | apply qw3 | refine qw4 ?_ GE175.out | refine qw4 ?_ GE176.out) | exact HB.out)) hb); have n4_ := qam (hbox); have n5_ := qam ((by rw [hg]; exact (qw5 (by repeat (first | (with_reducible first | exact HB.out | apply qw1 | apply qw2 | apply qw3 | refine qw4 ?_ GE175.out | refine qw4 ?_ GE176.out) | exact HB.out))) : w.heap.size ≤ gb182)); have n6_ := qam ((by rw [hg]; exact (qw5 (by repeat (first | (with_reducible first | exact HB.out | apply qw1 | apply qw2 | apply qw3 | refine qw4 ?_ GE175.out | refine qw4 ?_ GE176.out) | exact HB.out))) : w.heap.size ≤ gb182)); have n7_ := qam ((by rw [hg]; exact qnn (blk_lt (g := gb175) (o := .cells #[.slice A0_0 l0_0.length c0_0, .slice A0_1 l0_1.length c0_1, .int .i64 a0_2] 25 (0, 0)) (by (with_reducible repeat (first | refine qb3 ?_ _ | refine qb5 ?_ | refine qb4 ?_ _)); exact BK175.out)) : gb175 ≠ gb182)); have n8_ := qam ((by rw [hg]; exact Nat.ne_of_gt (blk_lt (g := gb175) (o := .cells #[.slice A0_0 l0_0.length c0_0, .slice A0_1 l0_1.length c0_1, .int .i64 a0_2] 25 (0, 0)) (by (with_reducible repeat (first | refine qb3 ?_ _ | refine qb5 ?_ | refine qb4 ?_ _)); exact BK175.out)) : gb182 ≠ gb175)); have n9_ := qam ((by rw [hg]; exact qnn (blk_lt (g := gb176) (o := .cells #[.int .i64 0, .slice none 0 0] 102 (0, 0)) (by (with_reducible repeat (first | refine qb3 ?_ _ | refine qb5 ?_ | refine qb4 ?_ _)); exact BK176.out)) : gb176 ≠ gb182)); have n10_ := qam ((by rw [hg]; exact Nat.ne_of_gt (blk_lt (g := gb176) (o := .cells #[.int .i64 0, .slice none 0 0] 102 (0, 0)) (by (with_reducible repeat (first | refine qb3 ?_ _ | refine qb5 ?_ | refine qb4 ?_ _)); exact BK176.out)) : gb182 ≠ gb176)); clear HO180; clear BK175; clear BK176; clear HB; have HO180 := n0_; have BK175 := n1_; have BK176 := n2_; have HB := n3_; have BK182 := n4_; have GW182 := n5_; have GE182 := n6_; have NB175_182 := n7_; have NB182_175 := n8_; have NB176_182 := n9_; have NB182_176 := n10_; clear n0_ n1_ n2_ n3_ n4_ n5_ n6_ n7_ n8_ n9_ n10_; clear hb hbox hg; have hnb13 := NB182_175.out; have hnc13 := NB175_182.out; have hnb14 := NB182_176.out; have hnc14 := NB176_182.out; have hcz15_0 : w12.cell? ⟨gb182, 0, none⟩ = some (.int .i64 0) := (qb1 BK182.out 0).trans rfl; have hcz15_1 : w12.cell? ⟨gb182, 1, none⟩ = some (.slice none 0 0) := (qb1 BK182.out 1).trans rfl; have hfz15_0 := qb2 BK182.out 0; have hfz15_1 := qb2 BK182.out 1; obtain ⟨Ao16, co16, eo16⟩ := Kd.R_slice HO180.out; subst eo16; have hcz17_0 : w12.cell? ⟨gb176, 0, none⟩ = some (.int .i64 0) := (qb1 BK176.out 0).trans rfl; have hcz17_1 : w12.cell? ⟨gb176, 1, none⟩ = some (.slice none 0 0) := (qb1 BK176.out 1).trans rfl; have hfz17_0 := qb2 BK176.out 0; have hfz17_1 := qb2 BK176.out 1))
   refine bodyPost_ret (results_ct rfl _ _ gb176 102 #[.int .i64 0, .slice none 0 0] (0, 0) _ rfl (by (with_reducible repeat (first | refine qb3 ?_ _ | refine qb5 ?_ | refine qb4 ?_ _)); refine blk_put (cs := #[.int .i64 0, .slice none 0 0]) ?_ 1 _ rfl; (with_reducible repeat (first | refine qb3 ?_ _ | refine qb5 ?_ | refine qb4 ?_ _)); refine blk_put (cs := #[.int .i64 0, .slice none 0 0]) ?_ 0 _ rfl; (with_reducible repeat (first | refine qb3 ?_ _ | refine qb5 ?_ | refine qb4 ?_ _)); refine blk_far ?_ NB176_182.out _; (with_reducible repeat (first | refine qb3 ?_ _ | refine qb5 ?_ | refine qb4 ?_ _)); refine blk_far ?_ NB176_182.out _; (with_reducible repeat (first | refine qb3 ?_ _ | refine qb5 ?_ | refine qb4 ?_ _)); exact BK176.out) Try.underlying102 rfl (by kernel_rfl)) rfl ?_
   exact ⟨_, by first | rfl | (simp [errW_none, errW_some] <;> rfl) | (simp [*, errW_none, errW_some] <;> rfl), by first | exact Kd.R_nil _ _ _ _ _ | exact Kd.N_nil _ _ _ _ _ | exact Kd.V_nil _ _ _ _ _ | exact Kd.Q_nil _ _ _ _ _ | exact Kd.S_nil _ _ _ _ _, by repeat (first | (with_reducible first | exact HB.out | apply qw1 | apply qw2 | apply qw3 | refine qw4 ?_ GE175.out | refine qw4 ?_ GE176.out | refine qw4 ?_ GE182.out) | exact HB.out)⟩
  ·rw [if_neg c6] at H
   have c6b0 : decide (4096 < (l2.length : Int)) = false := decide_eq_false c6
   have c6b1 : decide (4096 < l2.length) = false := decide_eq_false (by omega)
   clear c6
   have H' := qam H
   clear H
   go_enter Try.func51, Try.ntmps51
   go_wp2_with (first | ((with_reducible refine gate_dst (N := 3) rfl ?_); (try (refine gate_guard (by rfl) ?_; dsimp only)); refine box_event ?hg (N := 3) ?hd (cs := #[.slice A0_0 l0_0.length c0_0, .slice A0_1 l0_1.length c0_1, .int .i64 a0_2]) (t := 25) ?hr ?_; (case hd => rfl); (case hg => rfl); (case hr => first | (go_simp; done) | (go_simp; rfl)); intro gb175 hg w18 hbox hb; have n0_ := qam (qw6 (by repeat (first | (with_reducible first | exact HB.out | apply qw1 | apply qw2 | apply qw3) | exact HB.out)) hb); have n1_ := qam (hbox); have n2_ := qam ((by rw [hg]; exact (qw5 (by repeat (first | (with_reducible first | exact HB.out | apply qw1 | apply qw2 | apply qw3) | exact HB.out))) : w.heap.size ≤ gb175)); have n3_ := qam ((by rw [hg]; exact (qw5 (by repeat (first | (with_reducible first | exact HB.out | apply qw1 | apply qw2 | apply qw3) | exact HB.out))) : w.heap.size ≤ gb175)); clear HB; have HB := n0_; have BK175 := n1_; have GW175 := n2_; have GE175 := n3_; clear n0_ n1_ n2_ n3_; clear hb hbox hg) | ((with_reducible refine gate_dst (N := 6) rfl ?_); (try (refine gate_guard (by rfl) ?_; dsimp only)); refine box_event ?hg (N := 6) ?hd (cs := #[.int .i64 0, .slice none 0 0]) (t := 102) ?hr ?_; (case hd => rfl); (case hg => rfl); (case hr => first | (go_simp; done) | (go_simp; rfl)); intro gb176 hg w19 hbox hb; have n0_ := qam (blk_below (g := gb175) (o := .cells #[.slice A0_0 l0_0.length c0_0, .slice A0_1 l0_1.length c0_1, .int .i64 a0_2] 25 (0, 0)) (by (with_reducible repeat (first | refine qb3 ?_ _ | refine qb5 ?_ | refine qb4 ?_ _)); exact BK175.out) hb); have n1_ := qam (qw6 (by repeat (first | (with_reducible first | exact HB.out | apply qw1 | apply qw2 | apply qw3 | refine qw4 ?_ GE175.out) | exact HB.out)) hb); have n2_ := qam (hbox); have n3_ := qam ((by rw [hg]; exact (qw5 (by repeat (first | (with_reducible first | exact HB.out | apply qw1 | apply qw2 | apply qw3 | refine qw4 ?_ GE175.out) | exact HB.out))) : w.heap.size ≤ gb176)); have n4_ := qam ((by rw [hg]; exact (qw5 (by repeat (first | (with_reducible first | exact HB.out | apply qw1 | apply qw2 | apply qw3 | refine qw4 ?_ GE175.out) | exact HB.out))) : w.heap.size ≤ gb176)); have n5_ := qam ((by rw [hg]; exact qnn (blk_lt (g := gb175) (o := .cells #[.slice A0_0 l0_0.length c0_0, .slice A0_1 l0_1.length c0_1, .int .i64 a0_2] 25 (0, 0)) (by (with_reducible repeat (first | refine qb3 ?_ _ | refine qb5 ?_ | refine qb4 ?_ _)); exact BK175.out)) : gb175 ≠ gb176)); have n6_ := qam ((by rw [hg]; exact Nat.ne_of_gt (blk_lt (g := gb175) (o := .cells #[.slice A0_0 l0_0.length c0_0, .slice A0_1 l0_1.length c0_1, .int .i64 a0_2] 25 (0, 0)) (by (with_reducible repeat (first | refine qb3 ?_ _ | refine qb5 ?_ | refine qb4 ?_ _)); exact BK175.out)) : gb176 ≠ gb175)); clear BK175; clear HB; have BK175 := n0_; have HB := n1_; have BK176 := n2_; have GW176 := n3_; have GE176 := n4_; have NB175_176 := n5_; have NB176_175 := n6_; clear n0_ n1_ n2_ n3_ n4_ n5_ n6_; clear hb hbox hg; have hnb20 := NB175_176.out; have hnc20 := NB176_175.out; have hcz21_0 : w19.cell? ⟨gb175, 0, none⟩ = some (.slice A0_0 l0_0.length c0_0) := (qb1 BK175.out 0).trans rfl; have hcz21_1 : w19.cell? ⟨gb175, 1, none⟩ = some (.slice A0_1 l0_1.length c0_1) := (qb1 BK175.out 1).trans rfl; have hcz21_2 : w19.cell? ⟨gb175, 2, none⟩ = some (.int .i64 a0_2) := (qb1 BK175.out 2).trans rfl; have hfz21_0 := qb2 BK175.out 0; have hfz21_1 := qb2 BK175.out 1; have hfz21_2 := qb2 BK175.out 2) | ((with_reducible refine gate_callee (f := 57) rfl ?_); refine goesL_ (some 15) rfl rfl Try.func57 (by kernel_rfl) rfl #[.agg #[.slice A0_0 l0_0.length c0_0, .slice A0_1 l0_1.length c0_1, .int .i64 a0_2], .int .i64 a1] rfl (by (try simp only [List.map_toArray, List.map_cons, List.map_nil]); first | done | rfl | (simp only [List.length_drop, List.length_take]; rfl)) ?_; (with_reducible refine (vpath_begin.calls k _ _ l0_0 _ _ l0_1 a0_2 a1 t177 t178 t181 _ ?side1 ?side2 ?side3 ?side4 A4.out).mono ?_); (case side1 => repeat (first | exact (qk4 HR0_0.out HB.out) | (with_reducible refine Kd.C_alloc ?_ _) | (with_reducible refine Kd.C_drewN ?_ _) | (with_reducible refine Kd.C_drew ?_))); (case side2 => exact HC0_0.out); (case side3 => repeat (first | exact (qk4 HR0_1.out HB.out) | (with_reducible refine Kd.C_alloc ?_ _) | (with_reducible refine Kd.C_drewN ?_ _) | (with_reducible refine Kd.C_drew ?_))); (case side4 => exact HC0_1.out); rintro e w22 ⟨v179, rfl, ho0, hb⟩; refine ⟨_, rfl, ?_⟩; have n0_ := qam (Kd.R_lower ho0 (qw5 (by repeat (first | (with_reducible first | exact HB.out | apply qw1 | apply qw2 | apply qw3 | refine qw4 ?_ GE175.out | refine qw4 ?_ GE176.out) | exact HB.out)))); have n1_ := qam (blk_below (g := gb175) (o := .cells #[.slice A0_0 l0_0.length c0_0, .slice A0_1 l0_1.length c0_1, .int .i64 a0_2] 25 (0, 0)) (by (with_reducible repeat (first | refine qb3 ?_ _ | refine qb5 ?_ | refine qb4 ?_ _)); exact BK175.out) hb); have n2_ := qam (blk_below (g := gb176) (o := .cells #[.int .i64 0, .slice none 0 0] 102 (0, 0)) (by (with_reducible repeat (first | refine qb3 ?_ _ | refine qb5 ?_ | refine qb4 ?_ _)); exact BK176.out) hb); have n3_ := qam (qw6 (by repeat (first | (with_reducible first | exact HB.out | apply qw1 | apply qw2 | apply qw3 | refine qw4 ?_ GE175.out | refine qw4 ?_ GE176.out) | exact HB.out)) hb); clear BK175; clear BK176; clear HB; have HO180 := n0_; have BK175 := n1_; have BK176 := n2_; have HB := n3_; clear n0_ n1_ n2_ n3_; (try clear hb); (try clear hb2); (try clear hk); (try clear hi); (try clear ho0)) | ((with_reducible refine gate_dst (N := 8) rfl ?_); (try (refine gate_guard (by rfl) ?_; dsimp only)); refine box_event ?hg (N := 8) ?hd (cs := #[.int .i64 0, .slice none 0 0]) (t := 102) ?hr ?_; (case hd => rfl); (case hg => rfl); (case hr => first | (go_simp; done) | (go_simp; rfl)); intro gb182 hg w23 hbox hb; have n0_ := qam (Kd.R_below (by (with_reducible repeat (first | apply qk1 | apply qk2 | apply qk3)); exact HO180.out) hb); have n1_ := qam (blk_below (g := gb175) (o := .cells #[.slice A0_0 l0_0.length c0_0, .slice A0_1 l0_1.length c0_1, .int .i64 a0_2] 25 (0, 0)) (by (with_reducible repeat (first | refine qb3 ?_ _ | refine qb5 ?_ | refine qb4 ?_ _)); exact BK175.out) hb); have n2_ := qam (blk_below (g := gb176) (o := .cells #[.int .i64 0, .slice none 0 0] 102 (0, 0)) (by (with_reducible repeat (first | refine qb3 ?_ _ | refine qb5 ?_ | refine qb4 ?_ _)); exact BK176.out) hb); have n3_ := qam (qw6 (by repeat (first | (with_reducible first | exact HB.out | apply qw1 | apply qw2 | apply qw3 | refine qw4 ?_ GE175.out | refine qw4 ?_ GE176.out) | exact HB.out)) hb); have n4_ := qam (hbox); have n5_ := qam ((by rw [hg]; exact (qw5 (by repeat (first | (with_reducible first | exact HB.out | apply qw1 | apply qw2 | apply qw3 | refine qw4 ?_ GE175.out | refine qw4 ?_ GE176.out) | exact HB.out))) : w.heap.size ≤ gb182)); have n6_ := qam ((by rw [hg]; exact (qw5 (by repeat (first | (with_reducible first | exact HB.out | apply qw1 | apply qw2 | apply qw3 | refine qw4 ?_ GE175.out | refine qw4 ?_ GE176.out) | exact HB.out))) : w.heap.size ≤ gb182)); have n7_ := qam ((by rw [hg]; exact qnn (blk_lt (g := gb175) (o := .cells #[.slice A0_0 l0_0.length c0_0, .slice A0_1 l0_1.length c0_1, .int .i64 a0_2] 25 (0, 0)) (by (with_reducible repeat (first | refine qb3 ?_ _ | refine qb5 ?_ | refine qb4 ?_ _)); exact BK175.out)) : gb175 ≠ gb182)); have n8_ := qam ((by rw [hg]; exact Nat.ne_of_gt (blk_lt (g := gb175) (o := .cells #[.slice A0_0 l0_0.length c0_0, .slice A0_1 l0_1.length c0_1, .int .i64 a0_2] 25 (0, 0)) (by (with_reducible repeat (first | refine qb3 ?_ _ | refine qb5 ?_ | refine qb4 ?_ _)); exact BK175.out)) : gb182 ≠ gb175)); have n9_ := qam ((by rw [hg]; exact qnn (blk_lt (g := gb176) (o := .cells #[.int .i64 0, .slice none 0 0] 102 (0, 0)) (by (with_reducible repeat (first | refine qb3 ?_ _ | refine qb5 ?_ | refine qb4 ?_ _)); exact BK176.out)) : gb176 ≠ gb182)); have n10_ := qam ((by rw [hg]; exact Nat.ne_of_gt (blk_lt (g := gb176) (o := .cells #[.int .i64 0, .slice none 0 0] 102 (0, 0)) (by (with_reducible repeat (first | refine qb3 ?_ _ | refine qb5 ?_ | refine qb4 ?_ _)); exact BK176.out)) : gb182 ≠ gb176)); clear HO180; clear BK175; clear BK176; clear HB; have HO180 := n0_; have BK175 := n1_; have BK176 := n2_; have HB := n3_; have BK182 := n4_; have GW182 := n5_; have GE182 := n6_; have NB175_182 := n7_; have NB182_175 := n8_; have NB176_182 := n9_; have NB182_176 := n10_; clear n0_ n1_ n2_ n3_ n4_ n5_ n6_ n7_ n8_ n9_ n10_; clear hb hbox hg; have hnb24 := NB182_175.out; have hnc24 := NB175_182.out; have hnb25 := NB182_176.out; have hnc25 := NB176_182.out; have hcz26_0 : w23.cell? ⟨gb182, 0, none⟩ = some (.int .i64 0) := (qb1 BK182.out 0).trans rfl; have hcz26_1 : w23.cell? ⟨gb182, 1, none⟩ = some (.slice none 0 0) := (qb1 BK182.out 1).trans rfl; have hfz26_0 := qb2 BK182.out 0; have hfz26_1 := qb2 BK182.out 1; obtain ⟨Ao27, co27, eo27⟩ := Kd.R_slice HO180.out; subst eo27))
   go_loopg [28] k (fun kq v28 w' => ∃ (x28_1 : Int) (x177000_1 : Int) (x183000_1 : Int) (x183001_1 : List Int) (u183001 : Value), v28 = .int .i64 x28_1 ∧ Aside0 (vpath_follow.l0 kq l2 (l2.length : Int) x28_1 l0_0 l0_1 a0_2 x183000_1 x183001_1 = some (r1, r2, r3)) ∧ Aside0 (kq ≤ k) ∧ Aside0 (Kd.R (Kd.int .i64) 3 w' w.heap.size (fun _ => True) u183001 x183001_1) ∧ Aside0 (w'.heap[gb175]? = some (.cells #[(.slice A0_0 l0_0.length c0_0), (.slice A0_1 l0_1.length c0_1), .int .i64 a0_2] 25 (0, 0))) ∧ Aside0 (w'.heap[gb176]? = some (.cells #[.int .i64 x177000_1, (.slice none 0 0)] 102 (0, 0))) ∧ Aside0 (w'.heap[gb182]? = some (.cells #[.int .i64 x183000_1, u183001] 102 (0, 0))) ∧ Aside0 (Below w.heap.size w w'))
   case atStart => exact ⟨(0), (0), (t177), (t178), (.slice Ao27 t178.length co27), (by first | rfl | (simp; done) | (simp [*]; done)), H', ⟨Nat.le_refl _⟩, ⟨by (with_reducible repeat (first | apply qk1 | apply qk2 | apply qk3)); exact Kd.R_mono (Kd.R_far (p := ⟨gb182, 1, none⟩) (Kd.R_far (p := ⟨gb182, 0, none⟩) (Kd.R_types HO180.out BK182.out (by decide)) (fun _ hk => hk.2) (.int .i64 t177)) (fun _ hk => hk.2) (.slice Ao27 t178.length co27)) (fun _ hk => trivial)⟩, ⟨by (with_reducible repeat (first | refine qb3 ?_ _ | refine qb5 ?_ | refine qb4 ?_ _)); refine blk_far ?_ NB175_182.out _; (with_reducible repeat (first | refine qb3 ?_ _ | refine qb5 ?_ | refine qb4 ?_ _)); refine blk_far ?_ NB175_182.out _; (with_reducible repeat (first | refine qb3 ?_ _ | refine qb5 ?_ | refine qb4 ?_ _)); exact BK175.out⟩, ⟨by (with_reducible repeat (first | refine qb3 ?_ _ | refine qb5 ?_ | refine qb4 ?_ _)); refine blk_far ?_ NB176_182.out _; (with_reducible repeat (first | refine qb3 ?_ _ | refine qb5 ?_ | refine qb4 ?_ _)); refine blk_far ?_ NB176_182.out _; (with_reducible repeat (first | refine qb3 ?_ _ | refine qb5 ?_ | refine qb4 ?_ _)); exact BK176.out⟩, ⟨by (with_reducible repeat (first | refine qb3 ?_ _ | refine qb5 ?_ | refine qb4 ?_ _)); refine blk_put (cs := #[.int .i64 t177, .slice none 0 0]) ?_ 1 _ rfl; (with_reducible repeat (first | refine qb3 ?_ _ | refine qb5 ?_ | refine qb4 ?_ _)); refine blk_put (cs := #[.int .i64 0, .slice none 0 0]) ?_ 0 _ rfl; (with_reducible repeat (first | refine qb3 ?_ _ | refine qb5 ?_ | refine qb4 ?_ _)); exact BK182.out⟩, ⟨by repeat (first | (with_reducible first | exact HB.out | apply qw1 | apply qw2 | apply qw3 | refine qw4 ?_ GE175.out | refine qw4 ?_ GE176.out | refine qw4 ?_ GE182.out) | exact HB.out)⟩⟩
   case round =>
    clear H'
    try clear c1
    try clear c2
    try clear p2
    try clear c5
    try clear c5b0
    try clear c5b1
    try clear c6
    try clear c6b0
    try clear c6b1
    try clear c9
    try clear c13
    try clear c14
    try clear c20
    try clear c24
    try clear c25
    try clear hcz10_0
    try clear hcz10_1
    try clear hcz10_2
    try clear hcz15_0
    try clear hcz15_1
    try clear hcz17_0
    try clear hcz17_1
    try clear hcz21_0
    try clear hcz21_1
    try clear hcz21_2
    try clear hcz26_0
    try clear hcz26_1
    try clear hfz10_0
    try clear hfz10_1
    try clear hfz10_2
    try clear hfz15_0
    try clear hfz15_1
    try clear hfz17_0
    try clear hfz17_1
    try clear hfz21_0
    try clear hfz21_1
    try clear hfz21_2
    try clear hfz26_0
    try clear hfz26_1
    obtain ⟨x28_1, x177000_1, x183000_1, x183001_1, u183001, rfl, HA, HK1, HO_183001, BK175, BK176, BK182, HB⟩ := hrel
    cases gk with
    | zero => exact absurd HA.out (by simp [vpath_follow.l0])
    | succ k1 =>
     have H := HA.out
     clear HA
     simp only [vpath_follow.l0] at H
     by_cases c28 : x28_1 < (l2.length : Int)
     ·rw [if_pos c28] at H
      have c28b0 : decide (x28_1 < (l2.length : Int)) = true := decide_eq_true c28
      clear c28
      by_cases c29 : 0 ≤ x28_1
      ·rw [if_pos c29] at H
       have c29b0 : decide (0 ≤ x28_1) = true := decide_eq_true c29
       clear c29
       by_cases c30 : x28_1 < (l2.length : Int)
       ·rw [if_pos c30] at H
        have c30b0 : decide (x28_1 < (l2.length : Int)) = true := decide_eq_true c30
        clear c30
        have HC31 := qam H
        clear H
        have p183 : 0 ≤ (x28_1 : Int) := of_decide_eq_true (by first | (with_reducible assumption) | assumption)
        have q183 : x28_1 < (l2.length : Int) := of_decide_eq_true (by first | (with_reducible assumption) | assumption)
        obtain ⟨ad183, e183, hx183_0⟩ := Kd.at_int HR2.out x28_1 p183 q183
        cases e183
        replace hx183_0 := (HB.out.cell (qbl w _ hx183_0)).trans hx183_0
        replace p183 := eq_true p183
        replace q183 := eq_true q183
        go_upto_region 9 with (fail)
        go_cut [32] (fun v32 wc => ∃ (kq : Nat) (x32_30 : Bool), v32 = .bool x32_30 ∧ Aside0 (vpath_follow.j1 kq (rd l2 x28_1) l2 (l2.length : Int) x28_1 x32_30 l0_0 l0_1 a0_2 x183000_1 x183001_1 = some (r1, r2, r3)) ∧ Aside0 (kq ≤ k1) ∧ Aside0 (Kd.R (Kd.int .i64) 3 wc w.heap.size (fun _ => True) u183001 x183001_1) ∧ Aside0 (wc.heap[gb175]? = some (.cells #[(.slice A0_0 l0_0.length c0_0), (.slice A0_1 l0_1.length c0_1), .int .i64 a0_2] 25 (0, 0))) ∧ Aside0 (wc.heap[gb176]? = some (.cells #[.int .i64 x177000_1, (.slice none 0 0)] 102 (0, 0))) ∧ Aside0 (wc.heap[gb182]? = some (.cells #[.int .i64 x183000_1, u183001] 102 (0, 0))) ∧ Aside0 (Below w.heap.size w wc))
        case first =>
         have H := HC31.out
         clear HC31
         by_cases c32 : (rd l2 x28_1) < 0
         ·rw [if_pos c32] at H
          have c32b0 : decide ((rd l2 x28_1) < 0) = true := decide_eq_true c32
          clear c32
          (first | rw [c32b0] | (simp only [i64_w, i32_w]; rw [c32b0]) | skip)
          have H' := qam H
          clear H
          go_wp2
          go_meet
          case rel => exact ⟨_, (true), (by first | rfl | (simp; done) | (simp [*]; done)), H', ⟨by have := HK1.out; first | omega | exact Nat.le_refl _⟩, ⟨by (with_reducible repeat (first | apply qk1 | apply qk2 | apply qk3)); exact HO_183001.out⟩, ⟨by (with_reducible repeat (first | refine qb3 ?_ _ | refine qb5 ?_ | refine qb4 ?_ _)); exact BK175.out⟩, ⟨by (with_reducible repeat (first | refine qb3 ?_ _ | refine qb5 ?_ | refine qb4 ?_ _)); exact BK176.out⟩, ⟨by (with_reducible repeat (first | refine qb3 ?_ _ | refine qb5 ?_ | refine qb4 ?_ _)); exact BK182.out⟩, ⟨by repeat (first | (with_reducible first | exact HB.out | apply qw1 | apply qw2 | apply qw3 | refine qw4 ?_ GE175.out | refine qw4 ?_ GE176.out | refine qw4 ?_ GE182.out) | exact HB.out)⟩⟩
         ·rw [if_neg c32] at H
          have c32b0 : decide ((rd l2 x28_1) < 0) = false := decide_eq_false c32
          clear c32
          (first | rw [c32b0] | (simp only [i64_w, i32_w]; rw [c32b0]) | skip)
          have H' := qam H
          clear H
          have hnb33 := NB175_176.out
          have hnc33 := NB176_175.out
          have hnb34 := NB175_182.out
          have hnc34 := NB182_175.out
          have hcz35_0 : wr.cell? ⟨gb175, 0, none⟩ = some (.slice A0_0 l0_0.length c0_0) := (qb1 BK175.out 0).trans rfl
          have hcz35_1 : wr.cell? ⟨gb175, 1, none⟩ = some (.slice A0_1 l0_1.length c0_1) := (qb1 BK175.out 1).trans rfl
          have hcz35_2 : wr.cell? ⟨gb175, 2, none⟩ = some (.int .i64 a0_2) := (qb1 BK175.out 2).trans rfl
          have hfz35_0 := qb2 BK175.out 0
          have hfz35_1 := qb2 BK175.out 1
          have hfz35_2 := qb2 BK175.out 2
          go_wp2
          go_meet
          case rel => exact ⟨_, (decide ((rd l2 x28_1) ≥ (l0_1.length : Int))), (by first | rfl | (simp; done) | (simp [*]; done)), H', ⟨by have := HK1.out; first | omega | exact Nat.le_refl _⟩, ⟨by (with_reducible repeat (first | apply qk1 | apply qk2 | apply qk3)); exact HO_183001.out⟩, ⟨by (with_reducible repeat (first | refine qb3 ?_ _ | refine qb5 ?_ | refine qb4 ?_ _)); exact BK175.out⟩, ⟨by (with_reducible repeat (first | refine qb3 ?_ _ | refine qb5 ?_ | refine qb4 ?_ _)); exact BK176.out⟩, ⟨by (with_reducible repeat (first | refine qb3 ?_ _ | refine qb5 ?_ | refine qb4 ?_ _)); exact BK182.out⟩, ⟨by repeat (first | (with_reducible first | exact HB.out | apply qw1 | apply qw2 | apply qw3 | refine qw4 ?_ GE175.out | refine qw4 ?_ GE176.out | refine qw4 ?_ GE182.out) | exact HB.out)⟩⟩
        case rest =>
         clear HC31
         try clear c1
         try clear p1
         try clear q1
         try clear hx1
         try clear c2
         try clear p2
         try clear c3
         try clear c5
         try clear c5b0
         try clear c5b1
         try clear c6
         try clear c6b0
         try clear c6b1
         try clear c9
         try clear c13
         try clear c14
         try clear p18
         try clear q18
         try clear hx18
         try clear c20
         try clear c24
         try clear c25
         try clear c28
         try clear c28b0
         try clear c29
         try clear c29b0
         try clear c30
         try clear c30b0
         try clear c32
         try clear c32b0
         try clear c33
         try clear c34
         try clear hcz10_0
         try clear hcz10_1
         try clear hcz10_2
         try clear hcz15_0
         try clear hcz15_1
         try clear hcz17_0
         try clear hcz17_1
         try clear hcz21_0
         try clear hcz21_1
         try clear hcz21_2
         try clear hcz26_0
         try clear hcz26_1
         try clear hcz35_0
         try clear hcz35_1
         try clear hcz35_2
         try clear hfz10_0
         try clear hfz10_1
         try clear hfz10_2
         try clear hfz15_0
         try clear hfz15_1
         try clear hfz17_0
         try clear hfz17_1
         try clear hfz21_0
         try clear hfz21_1
         try clear hfz21_2
         try clear hfz26_0
         try clear hfz26_1
         try clear hfz35_0
         try clear hfz35_1
         try clear hfz35_2
         try clear hx183_0
         try clear p183
         try clear p2
         try clear q183
         obtain ⟨kq, x32_30, rfl, HA, HJ30, HO_183001, BK175, BK176, BK182, HB⟩ := hcut
         cases kq with
         | zero => exact absurd HA.out (by simp [vpath_follow.j1])
         | succ kj30 =>
          have H := HA.out
          clear HA
          simp only [vpath_follow.j1] at H
          by_cases c36 : x32_30 = true
          ·subst c36
           have H1 : (some (0, ([] : List Int), 4)) = some (r1, r2, r3) := by rw [if_pos rfl] at H; exact H
           clear H
           have H := H1
           clear H1
           simp only [Option.some.injEq, Prod.mk.injEq] at H
           obtain ⟨rfl, rfl, rfl⟩ := H
           have hnb37 := NB176_175.out
           have hnc37 := NB175_176.out
           have hnb38 := NB176_182.out
           have hnc38 := NB182_176.out
           have hcz39_0 : wc.cell? ⟨gb176, 0, none⟩ = some (.int .i64 x177000_1) := (qb1 BK176.out 0).trans rfl
           have hcz39_1 : wc.cell? ⟨gb176, 1, none⟩ = some (.slice none 0 0) := (qb1 BK176.out 1).trans rfl
           have hfz39_0 := qb2 BK176.out 0
           have hfz39_1 := qb2 BK176.out 1
           go_wp2
           refine bodyPost_ret (results_ct rfl _ _ gb176 102 #[.int .i64 0, .slice none 0 0] (0, 0) _ rfl (by (with_reducible repeat (first | refine qb3 ?_ _ | refine qb5 ?_ | refine qb4 ?_ _)); refine blk_put (cs := #[.int .i64 0, .slice none 0 0]) ?_ 1 _ rfl; (with_reducible repeat (first | refine qb3 ?_ _ | refine qb5 ?_ | refine qb4 ?_ _)); refine blk_put (cs := #[.int .i64 x177000_1, .slice none 0 0]) ?_ 0 _ rfl; (with_reducible repeat (first | refine qb3 ?_ _ | refine qb5 ?_ | refine qb4 ?_ _)); exact BK176.out) Try.underlying102 rfl (by kernel_rfl)) rfl ?_
           exact ⟨_, by first | rfl | (simp [errW_none, errW_some] <;> rfl) | (simp [*, errW_none, errW_some] <;> rfl), by first | exact Kd.R_nil _ _ _ _ _ | exact Kd.N_nil _ _ _ _ _ | exact Kd.V_nil _ _ _ _ _ | exact Kd.Q_nil _ _ _ _ _ | exact Kd.S_nil _ _ _ _ _, by repeat (first | (with_reducible first | exact HB.out | apply qw1 | apply qw2 | apply qw3 | refine qw4 ?_ GE175.out | refine qw4 ?_ GE176.out | refine qw4 ?_ GE182.out) | exact HB.out)⟩
          ·replace c36 := Bool.eq_false_iff.mpr c36
           subst c36
           have H1 : (if 0 ≤ (rd l2 x28_1) then (if (rd l2 x28_1) < (l0_1.length : Int) then (if ((rd_T32 l0_1 (rd l2 x28_1)).f0) = x183000_1 then ((vpath_place_allows.f x183000_1 x183001_1 ((rd_T32 l0_1 (rd l2 x28_1)).f0) ((rd_T32 l0_1 (rd l2 x28_1)).f1) ((rd_T32 l0_1 (rd l2 x28_1)).f2) ((rd_T32 l0_1 (rd l2 x28_1)).f3)).bind fun t186 => (if t186 = true then ((vpath_place_step.f x183000_1 x183001_1 ((rd_T32 l0_1 (rd l2 x28_1)).f0) ((rd_T32 l0_1 (rd l2 x28_1)).f1) ((rd_T32 l0_1 (rd l2 x28_1)).f2) ((rd_T32 l0_1 (rd l2 x28_1)).f3)).bind fun bt188 => (vpath_follow.l0 kj30 l2 (l2.length : Int) (wrap64 (x28_1 + 1)) l0_0 l0_1 a0_2 bt188.1 bt188.2)) else (some (0, ([] : List Int), 20)))) else (some (0, ([] : List Int), 16))) else (none)) else (none)) = some (r1, r2, r3) := by rw [if_neg (show ¬ (false = true) by decide)] at H; exact H
           clear H
           have H := H1
           clear H1
           by_cases c40 : 0 ≤ (rd l2 x28_1)
           ·rw [if_pos c40] at H
            have c40b0 : decide (0 ≤ (rd l2 x28_1)) = true := decide_eq_true c40
            clear c40
            by_cases c41 : (rd l2 x28_1) < (l0_1.length : Int)
            ·rw [if_pos c41] at H
             have c41b0 : decide ((rd l2 x28_1) < (l0_1.length : Int)) = true := decide_eq_true c41
             clear c41
             by_cases c42 : ((rd_T32 l0_1 (rd l2 x28_1)).f0) = x183000_1
             ·rw [if_pos c42] at H
              have c42b0 : (((rd_T32 l0_1 (rd l2 x28_1)).f0) == x183000_1) = true := beq_iff_eq.mpr c42
              have c42b1 : (((rd_T32 l0_1 (rd l2 x28_1)).f0) != x183000_1) = false := bne_eq_false_iff_eq.mpr c42
              clear c42
              replace H := Option.bind_eq_some_iff.mp H
              obtain ⟨t186, A430, H⟩ := H
              replace H : (if t186 = true then ((vpath_place_step.f x183000_1 x183001_1 ((rd_T32 l0_1 (rd l2 x28_1)).f0) ((rd_T32 l0_1 (rd l2 x28_1)).f1) ((rd_T32 l0_1 (rd l2 x28_1)).f2) ((rd_T32 l0_1 (rd l2 x28_1)).f3)).bind fun bt188 => (vpath_follow.l0 kj30 l2 (l2.length : Int) (wrap64 (x28_1 + 1)) l0_0 l0_1 a0_2 bt188.1 bt188.2)) else (some (0, ([] : List Int), 20))) = some (r1, r2, r3) := H
              have A43 := qam A430
              clear A430
              by_cases c44 : t186 = true
              ·subst c44
               have H1 : ((vpath_place_step.f x183000_1 x183001_1 ((rd_T32 l0_1 (rd l2 x28_1)).f0) ((rd_T32 l0_1 (rd l2 x28_1)).f1) ((rd_T32 l0_1 (rd l2 x28_1)).f2) ((rd_T32 l0_1 (rd l2 x28_1)).f3)).bind fun bt188 => (vpath_follow.l0 kj30 l2 (l2.length : Int) (wrap64 (x28_1 + 1)) l0_0 l0_1 a0_2 bt188.1 bt188.2)) = some (r1, r2, r3) := by rw [if_pos rfl] at H; exact H
               clear H
               have H := H1
               clear H1
               replace H := Option.bind_eq_some_iff.mp H
               obtain ⟨⟨t188, t189⟩, A450, H⟩ := H
               replace H : (vpath_follow.l0 kj30 l2 (l2.length : Int) (wrap64 (x28_1 + 1)) l0_0 l0_1 a0_2 t188 t189) = some (r1, r2, r3) := H
               have A45 := qam A450
               clear A450
               have H' := qam H
               clear H
               try go_wp2
               have n0_ := qam (qk3 HO_183001.out)
               have n1_ := qam (qb5 BK175.out)
               have n2_ := qam (qb5 BK176.out)
               have n3_ := qam (qb5 BK182.out)
               have n4_ := qam (qw3 HB.out)
               clear HO_183001
               clear BK175
               clear BK176
               clear BK182
               clear HB
               have HO_183001 := n0_
               have BK175 := n1_
               have BK176 := n2_
               have BK182 := n3_
               have HB := n4_
               clear n0_ n1_ n2_ n3_ n4_
               have p184 : 0 ≤ ((rd l2 x28_1) : Int) := of_decide_eq_true (by first | (with_reducible assumption) | assumption)
               have q184 : (rd l2 x28_1) < (l0_1.length : Int) := of_decide_eq_true (by first | (with_reducible assumption) | assumption)
               obtain ⟨ad184, e184, hx184_0, hx184_1, hx184_2, hx184_3⟩ := at_T32 HR0_1.out (rd l2 x28_1) p184 q184
               have hw184_3 := hx184_3
               have hw184_2 := hx184_2
               have hw184_1 := hx184_1
               have hw184_0 := hx184_0
               cases e184
               replace hx184_0 := (HB.out.cell (qbl w _ hx184_0)).trans hx184_0
               replace hx184_1 := (HB.out.cell (qbl w _ hx184_1)).trans hx184_1
               replace hx184_2 := (HB.out.cell (qbl w _ hx184_2)).trans hx184_2
               replace hx184_3 := (HB.out.cell (qbl w _ hx184_3)).trans hx184_3
               replace p184 := eq_true p184
               replace q184 := eq_true q184
               refine start_ (n := 10) (S := fun w' => w'.cell? ⟨gb175, 0, none⟩ = some (.slice A0_0 l0_0.length c0_0) ∧ w'.cell? ⟨gb175, 1, none⟩ = some (.slice (some ad184) l0_1.length c0_1) ∧ w'.cell? ⟨gb175, 2, none⟩ = some (.int .i64 a0_2) ∧ w'.cell? ⟨gb182, 0, none⟩ = some (.int .i64 x183000_1) ∧ w'.cell? ⟨gb182, 1, none⟩ = some (u183001) ∧ w'.cell? (ad184.add (((rd l2 x28_1)).toNat * 4)) = some (.int .i64 ((rd_T32 l0_1 (rd l2 x28_1)).f0)) ∧ w'.cell? ⟨(ad184.add (((rd l2 x28_1)).toNat * 4)).block, (ad184.add (((rd l2 x28_1)).toNat * 4)).off + 1, none⟩ = some (.int .i64 ((rd_T32 l0_1 (rd l2 x28_1)).f1)) ∧ w'.cell? ⟨(ad184.add (((rd l2 x28_1)).toNat * 4)).block, (ad184.add (((rd l2 x28_1)).toNat * 4)).off + 2, none⟩ = some (.int .i64 ((rd_T32 l0_1 (rd l2 x28_1)).f2)) ∧ w'.cell? ⟨(ad184.add (((rd l2 x28_1)).toNat * 4)).block, (ad184.add (((rd l2 x28_1)).toNat * 4)).off + 3, none⟩ = some (.int .i64 ((rd_T32 l0_1 (rd l2 x28_1)).f3))) (ds := []) #[false, false, false, false, false, false, false, false, false, false] (by kernel_rfl) rfl rfl ⟨(qb1 BK175.out 0).trans rfl, (qb1 BK175.out 1).trans rfl, (qb1 BK175.out 2).trans rfl, (qb1 BK182.out 0).trans rfl, (qb1 BK182.out 1).trans rfl, ((HB.out.cell (qbl w _ hw184_0)).trans hw184_0), ((HB.out.cell (qbl w _ hw184_1)).trans hw184_1), ((HB.out.cell (qbl w _ hw184_2)).trans hw184_2), ((HB.out.cell (qbl w _ hw184_3)).trans hw184_3)⟩ (fun hHeld => ?_); refine with_tabW vpath_follow.tab11 vpath_follow.bits11 (fun HT_ HW_ => ?_)
               generalize wc.drew = w46 at HO_183001 BK175 BK176 BK182 HB hx184_0 hx184_1 hx184_2 hx184_3 hHeld ⊢
               refine pure_ (i := 0) (N := some 44) (v := ?_) (a' := ?_) #[true, false, false, false, false, false, false, false, false, false] rfl rfl (any_of HT_.out (by kernel_rfl)) (fun _ _ _ h => h) (Or.inl ⟨by rfl, ?_⟩) ?_ ?_
               rotate_left
               ·intro w'
                go_simp
                with_reducible rfl
               rotate_left
               ·simp only [Act.put, qs1, qs2, qs3, i64_w, i32_w]
                rfl
               refine pure_ (i := 2) (N := some 46) (v := ?_) (a' := ?_) #[true, false, true, false, false, false, false, false, false, false] rfl rfl (any_of HT_.out (by kernel_rfl)) (fun _ _ _ h => h) (Or.inl ⟨by rfl, ?_⟩) ?_ ?_
               rotate_left
               ·intro w'
                go_simp
                with_reducible rfl
               rotate_left
               ·simp only [Act.put, qs1, qs2, qs3, i64_w, i32_w]
                rfl
               refine pure_ (i := 6) (N := some 50) (v := ?_) (a' := ?_) #[true, false, true, false, false, false, true, false, false, false] rfl rfl (any_of HT_.out (by kernel_rfl)) (fun _ _ _ h => h) (Or.inl ⟨by rfl, ?_⟩) ?_ ?_
               rotate_left
               ·intro w'
                go_simp
                with_reducible rfl
               rotate_left
               ·simp only [Act.put, qs1, qs2, qs3, i64_w, i32_w]
                rfl
               refine take_ (i := 1) (N := some 45) (v := ?_) (a' := ?_) #[true, true, true, false, false, false, true, false, false, false] rfl rfl (take_ofW HT_.out HW_.out (by kernel_rfl)) (fun _ _ _ h => h) (Or.inl ⟨by rfl, ?_⟩) hHeld ?_ ?_
               rotate_left
               ·rintro w' ⟨s0, s1, s2, s3, s4, s5, s6, s7, s8⟩
                go_simp
                with_reducible rfl
               rotate_left
               ·simp only [Act.put, qs1, qs2, qs3, i64_w, i32_w]
                rfl
               refine pure_ (i := 3) (N := some 47) (v := ?_) (a' := ?_) #[true, true, true, true, false, false, true, false, false, false] rfl rfl (any_of HT_.out (by kernel_rfl)) (fun _ _ _ h => h) (Or.inl ⟨by rfl, ?_⟩) ?_ ?_
               rotate_left
               ·intro w'
                go_simp
                with_reducible rfl
               rotate_left
               ·simp only [Act.put, qs1, qs2, qs3, i64_w, i32_w]
                rfl
               refine pure_ (i := 4) (N := some 48) (v := ?_) (a' := ?_) #[true, true, true, true, true, false, true, false, false, false] rfl rfl (any_of HT_.out (by kernel_rfl)) (fun _ _ _ h => h) (Or.inl ⟨by rfl, ?_⟩) ?_ ?_
               rotate_left
               ·intro w'
                go_simp
                with_reducible rfl
               rotate_left
               ·simp only [Act.put, qs1, qs2, qs3, i64_w, i32_w]
                rfl
               refine take_ (i := 5) (N := some 49) (v := ?_) (a' := ?_) #[true, true, true, true, true, true, true, false, false, false] rfl rfl (take_ofW HT_.out HW_.out (by kernel_rfl)) (fun _ _ _ h => h) (Or.inl ⟨by rfl, ?_⟩) hHeld ?_ ?_
               rotate_left
               ·rintro w' ⟨s0, s1, s2, s3, s4, s5, s6, s7, s8⟩
                go_simp
                with_reducible rfl
               rotate_left
               ·simp only [Act.put, qs1, qs2, qs3, i64_w, i32_w]
                rfl
               refine take_ (i := 7) (N := some 51) (v := ?_) (a' := ?_) #[true, true, true, true, true, true, true, true, false, false] rfl rfl (take_ofW HT_.out HW_.out (by kernel_rfl)) (fun _ _ _ h => h) (Or.inl ⟨by rfl, ?_⟩) hHeld ?_ ?_
               rotate_left
               ·rintro w' ⟨s0, s1, s2, s3, s4, s5, s6, s7, s8⟩
                go_simp
                with_reducible rfl
               rotate_left
               ·simp only [Act.put, qs1, qs2, qs3, i64_w, i32_w]
                rfl
               refine pure_ (i := 8) (N := some 52) (v := ?_) (a' := ?_) #[true, true, true, true, true, true, true, true, true, false] rfl rfl (any_of HT_.out (by kernel_rfl)) (fun _ _ _ h => h) (Or.inl ⟨by rfl, ?_⟩) ?_ ?_
               rotate_left
               ·intro w'
                go_simp
                with_reducible rfl
               rotate_left
               ·simp only [Act.put, qs1, qs2, qs3, i64_w, i32_w]
                rfl
               refine pure_ (i := 9) (N := some 43) (v := ?_) (a' := ?_) #[true, true, true, true, true, true, true, true, true, true] rfl rfl (any_of HT_.out (by kernel_rfl)) (fun _ _ _ h => h) (Or.inl ⟨by rfl, ?_⟩) ?_ ?_
               rotate_left
               ·intro w'
                go_simp
                with_reducible rfl
               rotate_left
               ·simp only [Act.put, qs1, qs2, qs3, i64_w, i32_w]
                rfl
               refine done_ (done_of HT_.out (by kernel_rfl)) ?_
               try go_wp2
               have n0_ := qam (qk3 HO_183001.out)
               have n1_ := qam (qb5 BK175.out)
               have n2_ := qam (qb5 BK176.out)
               have n3_ := qam (qb5 BK182.out)
               have n4_ := qam (qw3 HB.out)
               clear HO_183001
               clear BK175
               clear BK176
               clear BK182
               clear HB
               have HO_183001 := n0_
               have BK175 := n1_
               have BK176 := n2_
               have BK182 := n3_
               have HB := n4_
               clear n0_ n1_ n2_ n3_ n4_
               have p185 : 0 ≤ ((rd l2 x28_1) : Int) := of_decide_eq_true (by first | (with_reducible assumption) | assumption)
               have q185 : (rd l2 x28_1) < (l0_1.length : Int) := of_decide_eq_true (by first | (with_reducible assumption) | assumption)
               obtain ⟨ad185, e185, hx185_0, hx185_1, hx185_2, hx185_3⟩ := at_T32 HR0_1.out (rd l2 x28_1) p185 q185
               have hw185_3 := hx185_3
               have hw185_2 := hx185_2
               have hw185_1 := hx185_1
               have hw185_0 := hx185_0
               obtain rfl : ad184 = ad185 := (by injection e185)
               replace hx185_0 := (HB.out.cell (qbl w _ hx185_0)).trans hx185_0
               replace hx185_1 := (HB.out.cell (qbl w _ hx185_1)).trans hx185_1
               replace hx185_2 := (HB.out.cell (qbl w _ hx185_2)).trans hx185_2
               replace hx185_3 := (HB.out.cell (qbl w _ hx185_3)).trans hx185_3
               replace p185 := eq_true p185
               replace q185 := eq_true q185
               obtain ⟨Ao48, co48, eo48⟩ := Kd.R_slice HO_183001.out
               (first | subst eo48 | (injection eo48 with f1_ f2_ f3_; have f4_ := f1_.symm; have f5_ := f3_.symm; clear f1_ f2_ f3_; subst f4_; subst f5_))
               refine start_ (n := 9) (S := fun w' => w'.cell? ⟨gb182, 0, none⟩ = some (.int .i64 x183000_1) ∧ w'.cell? ⟨gb182, 1, none⟩ = some (.slice Ao48 x183001_1.length co48) ∧ w'.cell? ⟨gb175, 0, none⟩ = some (.slice A0_0 l0_0.length c0_0) ∧ w'.cell? ⟨gb175, 1, none⟩ = some (.slice (some ad184) l0_1.length c0_1) ∧ w'.cell? ⟨gb175, 2, none⟩ = some (.int .i64 a0_2) ∧ w'.cell? (ad184.add (((rd l2 x28_1)).toNat * 4)) = some (.int .i64 ((rd_T32 l0_1 (rd l2 x28_1)).f0)) ∧ w'.cell? ⟨(ad184.add (((rd l2 x28_1)).toNat * 4)).block, (ad184.add (((rd l2 x28_1)).toNat * 4)).off + 1, none⟩ = some (.int .i64 ((rd_T32 l0_1 (rd l2 x28_1)).f1)) ∧ w'.cell? ⟨(ad184.add (((rd l2 x28_1)).toNat * 4)).block, (ad184.add (((rd l2 x28_1)).toNat * 4)).off + 2, none⟩ = some (.int .i64 ((rd_T32 l0_1 (rd l2 x28_1)).f2)) ∧ w'.cell? ⟨(ad184.add (((rd l2 x28_1)).toNat * 4)).block, (ad184.add (((rd l2 x28_1)).toNat * 4)).off + 3, none⟩ = some (.int .i64 ((rd_T32 l0_1 (rd l2 x28_1)).f3))) (ds := []) #[false, false, false, false, false, false, false, false, false] (by kernel_rfl) rfl rfl ⟨(qb1 BK182.out 0).trans rfl, (qb1 BK182.out 1).trans rfl, (qb1 BK175.out 0).trans rfl, (qb1 BK175.out 1).trans rfl, (qb1 BK175.out 2).trans rfl, ((HB.out.cell (qbl w _ hw185_0)).trans hw185_0), ((HB.out.cell (qbl w _ hw185_1)).trans hw185_1), ((HB.out.cell (qbl w _ hw185_2)).trans hw185_2), ((HB.out.cell (qbl w _ hw185_3)).trans hw185_3)⟩ (fun hHeld => ?_); refine with_tabW vpath_follow.tab13 vpath_follow.bits13 (fun HT_ HW_ => ?_)
               generalize w46.drew = w47 at HO_183001 BK175 BK176 BK182 HB hx185_0 hx185_1 hx185_2 hx185_3 hHeld ⊢
               refine pure_ (i := 1) (N := some 56) (v := ?_) (a' := ?_) #[false, true, false, false, false, false, false, false, false] rfl rfl (any_of HT_.out (by kernel_rfl)) (fun _ _ _ h => h) (Or.inl ⟨by rfl, ?_⟩) ?_ ?_
               rotate_left
               ·intro w'
                go_simp
                with_reducible rfl
               rotate_left
               ·simp only [Act.put, qs1, qs2, qs3, i64_w, i32_w]
                rfl
               refine pure_ (i := 3) (N := some 58) (v := ?_) (a' := ?_) #[false, true, false, true, false, false, false, false, false] rfl rfl (any_of HT_.out (by kernel_rfl)) (fun _ _ _ h => h) (Or.inl ⟨by rfl, ?_⟩) ?_ ?_
               rotate_left
               ·intro w'
                go_simp
                with_reducible rfl
               rotate_left
               ·simp only [Act.put, qs1, qs2, qs3, i64_w, i32_w]
                rfl
               refine take_ (i := 0) (N := some 55) (v := ?_) (a' := ?_) #[true, true, false, true, false, false, false, false, false] rfl rfl (take_ofW HT_.out HW_.out (by kernel_rfl)) (fun _ _ _ h => h) (Or.inl ⟨by rfl, ?_⟩) hHeld ?_ ?_
               rotate_left
               ·rintro w' ⟨s0, s1, s2, s3, s4, s5, s6, s7, s8⟩
                go_simp
                with_reducible rfl
               rotate_left
               ·simp only [Act.put, qs1, qs2, qs3, i64_w, i32_w]
                rfl
               refine take_ (i := 2) (N := some 57) (v := ?_) (a' := ?_) #[true, true, true, true, false, false, false, false, false] rfl rfl (take_ofW HT_.out HW_.out (by kernel_rfl)) (fun _ _ _ h => h) (Or.inl ⟨by rfl, ?_⟩) hHeld ?_ ?_
               rotate_left
               ·rintro w' ⟨s0, s1, s2, s3, s4, s5, s6, s7, s8⟩
                go_simp
                with_reducible rfl
               rotate_left
               ·simp only [Act.put, qs1, qs2, qs3, i64_w, i32_w]
                rfl
               refine pure_ (i := 4) (N := some 59) (v := ?_) (a' := ?_) #[true, true, true, true, true, false, false, false, false] rfl rfl (any_of HT_.out (by kernel_rfl)) (fun _ _ _ h => h) (Or.inl ⟨by rfl, ?_⟩) ?_ ?_
               rotate_left
               ·intro w'
                go_simp
                with_reducible rfl
               rotate_left
               ·simp only [Act.put, qs1, qs2, qs3, i64_w, i32_w]
                rfl
               refine take_ (i := 5) (N := some 60) (v := ?_) (a' := ?_) #[true, true, true, true, true, true, false, false, false] rfl rfl (take_ofW HT_.out HW_.out (by kernel_rfl)) (fun _ _ _ h => h) (Or.inl ⟨by rfl, ?_⟩) hHeld ?_ ?_
               rotate_left
               ·rintro w' ⟨s0, s1, s2, s3, s4, s5, s6, s7, s8⟩
                go_simp
                with_reducible rfl
               rotate_left
               ·simp only [Act.put, qs1, qs2, qs3, i64_w, i32_w]
                rfl
               refine one_ (i := 6) (N := some 61) #[true, true, true, true, true, true, true, false, false] rfl rfl (one_of HT_.out (by kernel_rfl)) (by decide) (fun K hK => ?_)
               refine goes_ Try.func100 (by kernel_rfl) rfl #[.agg #[.int .i64 x183000_1, .slice Ao48 x183001_1.length co48], .agg #[.int .i64 ((rd_T32 l0_1 (rd l2 x28_1)).f0), .int .i64 ((rd_T32 l0_1 (rd l2 x28_1)).f1), .int .i64 ((rd_T32 l0_1 (rd l2 x28_1)).f2), .int .i64 ((rd_T32 l0_1 (rd l2 x28_1)).f3)]] (by rfl) rfl rfl (by (try simp only [List.map_toArray, List.map_cons, List.map_nil]); first | done | rfl | (simp only [List.length_drop, List.length_take]; rfl)) ?_
               with_reducible refine (vpath_place_allows.calls x183000_1 _ _ x183001_1 ((rd_T32 l0_1 (rd l2 x28_1)).f0) ((rd_T32 l0_1 (rd l2 x28_1)).f1) ((rd_T32 l0_1 (rd l2 x28_1)).f2) ((rd_T32 l0_1 (rd l2 x28_1)).f3) true _ ?side1 ?side2 A43.out).mono ?_
               (case side1 => repeat (first | exact (Kd.R_reads' HO_183001.out).2.2 | (with_reducible refine Kd.C_alloc ?_ _) | (with_reducible refine Kd.C_drewN ?_ _) | (with_reducible refine Kd.C_drew ?_)))
               (case side2 => exact (Kd.R_reads' HO_183001.out).2.1)
               rintro e w49 ⟨rfl, hb⟩
               refine ⟨_, rfl, ?_⟩
               have n0_ := qam (Kd.R_below (by (with_reducible repeat (first | apply qk1 | apply qk2 | apply qk3)); exact HO_183001.out) hb)
               have n1_ := qam (blk_below (g := gb175) (o := .cells #[.slice A0_0 l0_0.length c0_0, .slice (some ad184) l0_1.length c0_1, .int .i64 a0_2] 25 (0, 0)) (by (with_reducible repeat (first | refine qb3 ?_ _ | refine qb5 ?_ | refine qb4 ?_ _)); exact BK175.out) hb)
               have n2_ := qam (blk_below (g := gb176) (o := .cells #[.int .i64 x177000_1, .slice none 0 0] 102 (0, 0)) (by (with_reducible repeat (first | refine qb3 ?_ _ | refine qb5 ?_ | refine qb4 ?_ _)); exact BK176.out) hb)
               have n3_ := qam (blk_below (g := gb182) (o := .cells #[.int .i64 x183000_1, .slice Ao48 x183001_1.length co48] 102 (0, 0)) (by (with_reducible repeat (first | refine qb3 ?_ _ | refine qb5 ?_ | refine qb4 ?_ _)); exact BK182.out) hb)
               have n4_ := qam (qw6 (by repeat (first | (with_reducible first | exact HB.out | apply qw1 | apply qw2 | apply qw3 | refine qw4 ?_ GE175.out | refine qw4 ?_ GE176.out | refine qw4 ?_ GE182.out) | exact HB.out)) hb)
               clear HO_183001
               clear BK175
               clear BK176
               clear BK182
               clear HB
               have HO_183001 := n0_
               have BK175 := n1_
               have BK176 := n2_
               have BK182 := n3_
               have HB := n4_
               clear n0_ n1_ n2_ n3_ n4_
               (try clear hb)
               (try clear hb2)
               (try clear hk)
               (try clear hi)
               refine hK.out _ _ ⟨(qb1 BK182.out 0).trans rfl, (qb1 BK182.out 1).trans rfl, (qb1 BK175.out 0).trans rfl, (qb1 BK175.out 1).trans rfl, (qb1 BK175.out 2).trans rfl, ((HB.out.cell (qbl w _ hw185_0)).trans hw185_0), ((HB.out.cell (qbl w _ hw185_1)).trans hw185_1), ((HB.out.cell (qbl w _ hw185_2)).trans hw185_2), ((HB.out.cell (qbl w _ hw185_3)).trans hw185_3)⟩ (fun hHeld => ?_)
               clear hK K
               refine norm_ (a' := ?_) ?_ ?_
               rotate_left
               ·show Act.put _ (some 61) _ = _
                simp only [Act.put, qs1, qs2, qs3, i64_w, i32_w]
                rfl
               refine pure_ (i := 7) (N := some 62) (v := ?_) (a' := ?_) #[true, true, true, true, true, true, true, true, false] rfl rfl (any_of HT_.out (by kernel_rfl)) (fun _ _ _ h => h) (Or.inl ⟨by rfl, ?_⟩) ?_ ?_
               rotate_left
               ·intro w'
                go_simp
                with_reducible rfl
               rotate_left
               ·simp only [Act.put, qs1, qs2, qs3, i64_w, i32_w]
                rfl
               refine pure_ (i := 8) (N := some 54) (v := ?_) (a' := ?_) #[true, true, true, true, true, true, true, true, true] rfl rfl (any_of HT_.out (by kernel_rfl)) (fun _ _ _ h => h) (Or.inl ⟨by rfl, ?_⟩) ?_ ?_
               rotate_left
               ·intro w'
                go_simp
                with_reducible rfl
               rotate_left
               ·simp only [Act.put, qs1, qs2, qs3, i64_w, i32_w]
                rfl
               refine done_ (done_of HT_.out (by kernel_rfl)) ?_
               try go_wp2
               have n0_ := qam (qk3 HO_183001.out)
               have n1_ := qam (qb5 BK175.out)
               have n2_ := qam (qb5 BK176.out)
               have n3_ := qam (qb5 BK182.out)
               have n4_ := qam (qw3 HB.out)
               clear HO_183001
               clear BK175
               clear BK176
               clear BK182
               clear HB
               have HO_183001 := n0_
               have BK175 := n1_
               have BK176 := n2_
               have BK182 := n3_
               have HB := n4_
               clear n0_ n1_ n2_ n3_ n4_
               have p187 : 0 ≤ ((rd l2 x28_1) : Int) := of_decide_eq_true (by first | (with_reducible assumption) | assumption)
               have q187 : (rd l2 x28_1) < (l0_1.length : Int) := of_decide_eq_true (by first | (with_reducible assumption) | assumption)
               obtain ⟨ad187, e187, hx187_0, hx187_1, hx187_2, hx187_3⟩ := at_T32 HR0_1.out (rd l2 x28_1) p187 q187
               have hw187_3 := hx187_3
               have hw187_2 := hx187_2
               have hw187_1 := hx187_1
               have hw187_0 := hx187_0
               obtain rfl : ad184 = ad187 := (by injection e187)
               replace hx187_0 := (HB.out.cell (qbl w _ hx187_0)).trans hx187_0
               replace hx187_1 := (HB.out.cell (qbl w _ hx187_1)).trans hx187_1
               replace hx187_2 := (HB.out.cell (qbl w _ hx187_2)).trans hx187_2
               replace hx187_3 := (HB.out.cell (qbl w _ hx187_3)).trans hx187_3
               replace p187 := eq_true p187
               replace q187 := eq_true q187
               refine start_ (n := 8) (S := fun w' => w'.cell? ⟨gb182, 0, none⟩ = some (.int .i64 x183000_1) ∧ w'.cell? ⟨gb182, 1, none⟩ = some (.slice Ao48 x183001_1.length co48) ∧ w'.cell? ⟨gb175, 0, none⟩ = some (.slice A0_0 l0_0.length c0_0) ∧ w'.cell? ⟨gb175, 1, none⟩ = some (.slice (some ad184) l0_1.length c0_1) ∧ w'.cell? ⟨gb175, 2, none⟩ = some (.int .i64 a0_2) ∧ w'.cell? (ad184.add (((rd l2 x28_1)).toNat * 4)) = some (.int .i64 ((rd_T32 l0_1 (rd l2 x28_1)).f0)) ∧ w'.cell? ⟨(ad184.add (((rd l2 x28_1)).toNat * 4)).block, (ad184.add (((rd l2 x28_1)).toNat * 4)).off + 1, none⟩ = some (.int .i64 ((rd_T32 l0_1 (rd l2 x28_1)).f1)) ∧ w'.cell? ⟨(ad184.add (((rd l2 x28_1)).toNat * 4)).block, (ad184.add (((rd l2 x28_1)).toNat * 4)).off + 2, none⟩ = some (.int .i64 ((rd_T32 l0_1 (rd l2 x28_1)).f2)) ∧ w'.cell? ⟨(ad184.add (((rd l2 x28_1)).toNat * 4)).block, (ad184.add (((rd l2 x28_1)).toNat * 4)).off + 3, none⟩ = some (.int .i64 ((rd_T32 l0_1 (rd l2 x28_1)).f3))) (ds := [7]) #[false, false, false, false, false, false, false, false] (by kernel_rfl) rfl rfl ⟨(qb1 BK182.out 0).trans rfl, (qb1 BK182.out 1).trans rfl, (qb1 BK175.out 0).trans rfl, (qb1 BK175.out 1).trans rfl, (qb1 BK175.out 2).trans rfl, ((HB.out.cell (qbl w _ hw187_0)).trans hw187_0), ((HB.out.cell (qbl w _ hw187_1)).trans hw187_1), ((HB.out.cell (qbl w _ hw187_2)).trans hw187_2), ((HB.out.cell (qbl w _ hw187_3)).trans hw187_3)⟩ (fun hHeld => ?_); refine with_tabW vpath_follow.tab15 vpath_follow.bits15 (fun HT_ HW_ => ?_)
               generalize w49.drew = w50 at HO_183001 BK175 BK176 BK182 HB hx187_0 hx187_1 hx187_2 hx187_3 hHeld ⊢
               refine pure_ (i := 1) (N := some 65) (v := ?_) (a' := ?_) #[false, true, false, false, false, false, false, false] rfl rfl (any_of HT_.out (by kernel_rfl)) (fun _ _ _ h => h) (Or.inl ⟨by rfl, ?_⟩) ?_ ?_
               rotate_left
               ·intro w'
                go_simp
                with_reducible rfl
               rotate_left
               ·simp only [Act.put, qs1, qs2, qs3, i64_w, i32_w]
                rfl
               refine pure_ (i := 3) (N := some 67) (v := ?_) (a' := ?_) #[false, true, false, true, false, false, false, false] rfl rfl (any_of HT_.out (by kernel_rfl)) (fun _ _ _ h => h) (Or.inl ⟨by rfl, ?_⟩) ?_ ?_
               rotate_left
               ·intro w'
                go_simp
                with_reducible rfl
               rotate_left
               ·simp only [Act.put, qs1, qs2, qs3, i64_w, i32_w]
                rfl
               refine take_ (i := 0) (N := some 64) (v := ?_) (a' := ?_) #[true, true, false, true, false, false, false, false] rfl rfl (take_ofW HT_.out HW_.out (by kernel_rfl)) (fun _ _ _ h => h) (Or.inl ⟨by rfl, ?_⟩) hHeld ?_ ?_
               rotate_left
               ·rintro w' ⟨s0, s1, s2, s3, s4, s5, s6, s7, s8⟩
                go_simp
                with_reducible rfl
               rotate_left
               ·simp only [Act.put, qs1, qs2, qs3, i64_w, i32_w]
                rfl
               refine take_ (i := 2) (N := some 66) (v := ?_) (a' := ?_) #[true, true, true, true, false, false, false, false] rfl rfl (take_ofW HT_.out HW_.out (by kernel_rfl)) (fun _ _ _ h => h) (Or.inl ⟨by rfl, ?_⟩) hHeld ?_ ?_
               rotate_left
               ·rintro w' ⟨s0, s1, s2, s3, s4, s5, s6, s7, s8⟩
                go_simp
                with_reducible rfl
               rotate_left
               ·simp only [Act.put, qs1, qs2, qs3, i64_w, i32_w]
                rfl
               refine pure_ (i := 4) (N := some 68) (v := ?_) (a' := ?_) #[true, true, true, true, true, false, false, false] rfl rfl (any_of HT_.out (by kernel_rfl)) (fun _ _ _ h => h) (Or.inl ⟨by rfl, ?_⟩) ?_ ?_
               rotate_left
               ·intro w'
                go_simp
                with_reducible rfl
               rotate_left
               ·simp only [Act.put, qs1, qs2, qs3, i64_w, i32_w]
                rfl
               refine take_ (i := 5) (N := some 69) (v := ?_) (a' := ?_) #[true, true, true, true, true, true, false, false] rfl rfl (take_ofW HT_.out HW_.out (by kernel_rfl)) (fun _ _ _ h => h) (Or.inl ⟨by rfl, ?_⟩) hHeld ?_ ?_
               rotate_left
               ·rintro w' ⟨s0, s1, s2, s3, s4, s5, s6, s7, s8⟩
                go_simp
                with_reducible rfl
               rotate_left
               ·simp only [Act.put, qs1, qs2, qs3, i64_w, i32_w]
                rfl
               refine one_ (i := 6) (N := some 70) #[true, true, true, true, true, true, true, false] rfl rfl (one_of HT_.out (by kernel_rfl)) (by decide) (fun K hK => ?_)
               refine goes_ Try.func101 (by kernel_rfl) rfl #[.agg #[.int .i64 x183000_1, .slice Ao48 x183001_1.length co48], .agg #[.int .i64 ((rd_T32 l0_1 (rd l2 x28_1)).f0), .int .i64 ((rd_T32 l0_1 (rd l2 x28_1)).f1), .int .i64 ((rd_T32 l0_1 (rd l2 x28_1)).f2), .int .i64 ((rd_T32 l0_1 (rd l2 x28_1)).f3)]] (by rfl) rfl rfl (by (try simp only [List.map_toArray, List.map_cons, List.map_nil]); first | done | rfl | (simp only [List.length_drop, List.length_take]; rfl)) ?_
               with_reducible refine (vpath_place_step.calls x183000_1 (fun k_ => some k_ = (.slice Ao48 x183001_1.length co48 : Value).ownBlock) (.slice Ao48 x183001_1.length co48) x183001_1 ((rd_T32 l0_1 (rd l2 x28_1)).f0) ((rd_T32 l0_1 (rd l2 x28_1)).f1) ((rd_T32 l0_1 (rd l2 x28_1)).f2) ((rd_T32 l0_1 (rd l2 x28_1)).f3) t188 t189 w _ ?side1 ?side2 A45.out).mono ?_
               (case side1 => repeat (first | (with_reducible first | exact HB.out | apply qw1 | apply qw2 | apply qw3 | refine qw4 ?_ GE175.out | refine qw4 ?_ GE176.out | refine qw4 ?_ GE182.out) | exact HB.out))
               (case side2 => exact Kd.R_tight rfl HO_183001.out)
               rintro e w51 ⟨v190, rfl, ho0, hb, hkp⟩
               refine ⟨_, rfl, ?_⟩
               have n0_ := qam (blk_kept (by (with_reducible repeat (first | refine qb3 ?_ _ | refine qb5 ?_ | refine qb4 ?_ _)); exact BK175.out) hkp (fun hs_ => (fun e_ => (Kd.R_ne HO_183001.out BK175.out (by decide)) e_) hs_))
               have n1_ := qam (blk_kept (by (with_reducible repeat (first | refine qb3 ?_ _ | refine qb5 ?_ | refine qb4 ?_ _)); exact BK176.out) hkp (fun hs_ => (fun e_ => (Kd.R_ne HO_183001.out BK176.out (by decide)) e_) hs_))
               have n2_ := qam (blk_kept (by (with_reducible repeat (first | refine qb3 ?_ _ | refine qb5 ?_ | refine qb4 ?_ _)); exact BK182.out) hkp (fun hs_ => (fun e_ => (Kd.R_ne HO_183001.out BK182.out (by decide)) e_) hs_))
               have n3_ := qam (Kd.R_mono (ok' := fun k_ => True) ho0 (fun k_ hk_ => trivial))
               have n4_ := qam (hb)
               clear BK175
               clear BK176
               clear BK182
               clear HB
               clear HO_183001
               have BK175 := n0_
               have BK176 := n1_
               have BK182 := n2_
               have HO191 := n3_
               have HB := n4_
               clear n0_ n1_ n2_ n3_ n4_
               (try clear hb)
               (try clear hkp)
               (try clear ho0)
               obtain ⟨Ao53, co53, eo53⟩ := Kd.R_slice HO191.out
               (first | subst eo53 | (injection eo53 with f1_ f2_ f3_; have f4_ := f1_.symm; have f5_ := f3_.symm; clear f1_ f2_ f3_; subst f4_; subst f5_))
               refine hK.out _ _ ⟨(qb1 BK182.out 0).trans rfl, (qb1 BK182.out 1).trans rfl, (qb1 BK175.out 0).trans rfl, (qb1 BK175.out 1).trans rfl, (qb1 BK175.out 2).trans rfl, ((HB.out.cell (qbl w _ hw187_0)).trans hw187_0), ((HB.out.cell (qbl w _ hw187_1)).trans hw187_1), ((HB.out.cell (qbl w _ hw187_2)).trans hw187_2), ((HB.out.cell (qbl w _ hw187_3)).trans hw187_3)⟩ (fun hHeld => ?_)
               clear hK K
               refine norm_ (a' := ?_) ?_ ?_
               rotate_left
               ·show Act.put _ (some 70) _ = _
                simp only [Act.put, qs1, qs2, qs3, i64_w, i32_w]
                rfl
               refine last_ (i := 7) (N := none) #[true, true, true, true, true, true, true, true] rfl rfl (one_of HT_.out (by kernel_rfl)) (by decide) (fun K hK => ?_)
               have hs52 : w51.cell? ⟨gb182, 0, none⟩ = some (.int .i64 x183000_1) := (qb1 BK182.out 0).trans rfl
               have hfs52 := qb2 BK182.out 0
               have hns52_0 := NB175_182.out
               have hns52_1 := NB176_182.out
               have hms52_0 := NB182_175.out
               have hms52_1 := NB182_176.out
               have hs54 : w51.cell? ⟨gb182, 1, none⟩ = some (.slice Ao48 x183001_1.length co48) := (qb1 BK182.out 1).trans rfl
               have hfs54 := qb2 BK182.out 1
               have hns54_0 := NB175_182.out
               have hns54_1 := NB176_182.out
               have hms54_0 := NB182_175.out
               have hms54_1 := NB182_176.out
               refine skip_ (w1 := ?_) (by rfl) rfl ?_ ?_
               rotate_left
               ·go_simp
                rfl
               refine hK.out _ _ ?_
               clear hK K
               refine done_ (done_of HT_.out (by kernel_rfl)) ?_
               try go_wp2
               go_roundg kj30
               case measure => have := HK1.out; have := HJ30.out; omega
               case rel => exact ⟨(wrap64 (x28_1 + 1)), (x177000_1), (t188), (t189), (.slice Ao53 t189.length co53), (by first | rfl | (simp; done) | (simp [*]; done)), H', ⟨by have := HK1.out; have := HJ30.out; omega⟩, ⟨by (with_reducible repeat (first | apply qk1 | apply qk2 | apply qk3)); exact Kd.R_mono (Kd.R_far (p := ⟨gb182, 1, none⟩) (Kd.R_far (p := ⟨gb182, 0, none⟩) (Kd.R_types HO191.out BK182.out (by decide)) (fun _ hk => hk.2) (.int .i64 t188)) (fun _ hk => hk.2) (.slice Ao53 t189.length co53)) (fun _ hk => trivial)⟩, ⟨by (with_reducible repeat (first | refine qb3 ?_ _ | refine qb5 ?_ | refine qb4 ?_ _)); refine blk_far ?_ NB175_182.out _; (with_reducible repeat (first | refine qb3 ?_ _ | refine qb5 ?_ | refine qb4 ?_ _)); refine blk_far ?_ NB175_182.out _; (with_reducible repeat (first | refine qb3 ?_ _ | refine qb5 ?_ | refine qb4 ?_ _)); exact BK175.out⟩, ⟨by (with_reducible repeat (first | refine qb3 ?_ _ | refine qb5 ?_ | refine qb4 ?_ _)); refine blk_far ?_ NB176_182.out _; (with_reducible repeat (first | refine qb3 ?_ _ | refine qb5 ?_ | refine qb4 ?_ _)); refine blk_far ?_ NB176_182.out _; (with_reducible repeat (first | refine qb3 ?_ _ | refine qb5 ?_ | refine qb4 ?_ _)); exact BK176.out⟩, ⟨by (with_reducible repeat (first | refine qb3 ?_ _ | refine qb5 ?_ | refine qb4 ?_ _)); refine blk_put (cs := #[.int .i64 t188, .slice Ao48 x183001_1.length co48]) ?_ 1 _ rfl; (with_reducible repeat (first | refine qb3 ?_ _ | refine qb5 ?_ | refine qb4 ?_ _)); refine blk_put (cs := #[.int .i64 x183000_1, .slice Ao48 x183001_1.length co48]) ?_ 0 _ rfl; (with_reducible repeat (first | refine qb3 ?_ _ | refine qb5 ?_ | refine qb4 ?_ _)); exact BK182.out⟩, ⟨by repeat (first | (with_reducible first | exact HB.out | apply qw1 | apply qw2 | apply qw3 | refine qw4 ?_ GE175.out | refine qw4 ?_ GE176.out | refine qw4 ?_ GE182.out) | exact HB.out)⟩⟩
              ·replace c44 := Bool.eq_false_iff.mpr c44
               subst c44
               have H1 : (some (0, ([] : List Int), 20)) = some (r1, r2, r3) := by rw [if_neg (show ¬ (false = true) by decide)] at H; exact H
               clear H
               have H := H1
               clear H1
               simp only [Option.some.injEq, Prod.mk.injEq] at H
               obtain ⟨rfl, rfl, rfl⟩ := H
               try go_wp2
               have n0_ := qam (qk3 HO_183001.out)
               have n1_ := qam (qb5 BK175.out)
               have n2_ := qam (qb5 BK176.out)
               have n3_ := qam (qb5 BK182.out)
               have n4_ := qam (qw3 HB.out)
               clear HO_183001
               clear BK175
               clear BK176
               clear BK182
               clear HB
               have HO_183001 := n0_
               have BK175 := n1_
               have BK176 := n2_
               have BK182 := n3_
               have HB := n4_
               clear n0_ n1_ n2_ n3_ n4_
               have p184 : 0 ≤ ((rd l2 x28_1) : Int) := of_decide_eq_true (by first | (with_reducible assumption) | assumption)
               have q184 : (rd l2 x28_1) < (l0_1.length : Int) := of_decide_eq_true (by first | (with_reducible assumption) | assumption)
               obtain ⟨ad184, e184, hx184_0, hx184_1, hx184_2, hx184_3⟩ := at_T32 HR0_1.out (rd l2 x28_1) p184 q184
               have hw184_3 := hx184_3
               have hw184_2 := hx184_2
               have hw184_1 := hx184_1
               have hw184_0 := hx184_0
               cases e184
               replace hx184_0 := (HB.out.cell (qbl w _ hx184_0)).trans hx184_0
               replace hx184_1 := (HB.out.cell (qbl w _ hx184_1)).trans hx184_1
               replace hx184_2 := (HB.out.cell (qbl w _ hx184_2)).trans hx184_2
               replace hx184_3 := (HB.out.cell (qbl w _ hx184_3)).trans hx184_3
               replace p184 := eq_true p184
               replace q184 := eq_true q184
               refine start_ (n := 10) (S := fun w' => w'.cell? ⟨gb175, 0, none⟩ = some (.slice A0_0 l0_0.length c0_0) ∧ w'.cell? ⟨gb175, 1, none⟩ = some (.slice (some ad184) l0_1.length c0_1) ∧ w'.cell? ⟨gb175, 2, none⟩ = some (.int .i64 a0_2) ∧ w'.cell? ⟨gb182, 0, none⟩ = some (.int .i64 x183000_1) ∧ w'.cell? ⟨gb182, 1, none⟩ = some (u183001) ∧ w'.cell? (ad184.add (((rd l2 x28_1)).toNat * 4)) = some (.int .i64 ((rd_T32 l0_1 (rd l2 x28_1)).f0)) ∧ w'.cell? ⟨(ad184.add (((rd l2 x28_1)).toNat * 4)).block, (ad184.add (((rd l2 x28_1)).toNat * 4)).off + 1, none⟩ = some (.int .i64 ((rd_T32 l0_1 (rd l2 x28_1)).f1)) ∧ w'.cell? ⟨(ad184.add (((rd l2 x28_1)).toNat * 4)).block, (ad184.add (((rd l2 x28_1)).toNat * 4)).off + 2, none⟩ = some (.int .i64 ((rd_T32 l0_1 (rd l2 x28_1)).f2)) ∧ w'.cell? ⟨(ad184.add (((rd l2 x28_1)).toNat * 4)).block, (ad184.add (((rd l2 x28_1)).toNat * 4)).off + 3, none⟩ = some (.int .i64 ((rd_T32 l0_1 (rd l2 x28_1)).f3))) (ds := []) #[false, false, false, false, false, false, false, false, false, false] (by kernel_rfl) rfl rfl ⟨(qb1 BK175.out 0).trans rfl, (qb1 BK175.out 1).trans rfl, (qb1 BK175.out 2).trans rfl, (qb1 BK182.out 0).trans rfl, (qb1 BK182.out 1).trans rfl, ((HB.out.cell (qbl w _ hw184_0)).trans hw184_0), ((HB.out.cell (qbl w _ hw184_1)).trans hw184_1), ((HB.out.cell (qbl w _ hw184_2)).trans hw184_2), ((HB.out.cell (qbl w _ hw184_3)).trans hw184_3)⟩ (fun hHeld => ?_); refine with_tabW vpath_follow.tab11 vpath_follow.bits11 (fun HT_ HW_ => ?_)
               generalize wc.drew = w55 at HO_183001 BK175 BK176 BK182 HB hx184_0 hx184_1 hx184_2 hx184_3 hHeld ⊢
               refine pure_ (i := 0) (N := some 44) (v := ?_) (a' := ?_) #[true, false, false, false, false, false, false, false, false, false] rfl rfl (any_of HT_.out (by kernel_rfl)) (fun _ _ _ h => h) (Or.inl ⟨by rfl, ?_⟩) ?_ ?_
               rotate_left
               ·intro w'
                go_simp
                with_reducible rfl
               rotate_left
               ·simp only [Act.put, qs1, qs2, qs3, i64_w, i32_w]
                rfl
               refine pure_ (i := 2) (N := some 46) (v := ?_) (a' := ?_) #[true, false, true, false, false, false, false, false, false, false] rfl rfl (any_of HT_.out (by kernel_rfl)) (fun _ _ _ h => h) (Or.inl ⟨by rfl, ?_⟩) ?_ ?_
               rotate_left
               ·intro w'
                go_simp
                with_reducible rfl
               rotate_left
               ·simp only [Act.put, qs1, qs2, qs3, i64_w, i32_w]
                rfl
               refine pure_ (i := 6) (N := some 50) (v := ?_) (a' := ?_) #[true, false, true, false, false, false, true, false, false, false] rfl rfl (any_of HT_.out (by kernel_rfl)) (fun _ _ _ h => h) (Or.inl ⟨by rfl, ?_⟩) ?_ ?_
               rotate_left
               ·intro w'
                go_simp
                with_reducible rfl
               rotate_left
               ·simp only [Act.put, qs1, qs2, qs3, i64_w, i32_w]
                rfl
               refine take_ (i := 1) (N := some 45) (v := ?_) (a' := ?_) #[true, true, true, false, false, false, true, false, false, false] rfl rfl (take_ofW HT_.out HW_.out (by kernel_rfl)) (fun _ _ _ h => h) (Or.inl ⟨by rfl, ?_⟩) hHeld ?_ ?_
               rotate_left
               ·rintro w' ⟨s0, s1, s2, s3, s4, s5, s6, s7, s8⟩
                go_simp
                with_reducible rfl
               rotate_left
               ·simp only [Act.put, qs1, qs2, qs3, i64_w, i32_w]
                rfl
               refine pure_ (i := 3) (N := some 47) (v := ?_) (a' := ?_) #[true, true, true, true, false, false, true, false, false, false] rfl rfl (any_of HT_.out (by kernel_rfl)) (fun _ _ _ h => h) (Or.inl ⟨by rfl, ?_⟩) ?_ ?_
               rotate_left
               ·intro w'
                go_simp
                with_reducible rfl
               rotate_left
               ·simp only [Act.put, qs1, qs2, qs3, i64_w, i32_w]
                rfl
               refine pure_ (i := 4) (N := some 48) (v := ?_) (a' := ?_) #[true, true, true, true, true, false, true, false, false, false] rfl rfl (any_of HT_.out (by kernel_rfl)) (fun _ _ _ h => h) (Or.inl ⟨by rfl, ?_⟩) ?_ ?_
               rotate_left
               ·intro w'
                go_simp
                with_reducible rfl
               rotate_left
               ·simp only [Act.put, qs1, qs2, qs3, i64_w, i32_w]
                rfl
               refine take_ (i := 5) (N := some 49) (v := ?_) (a' := ?_) #[true, true, true, true, true, true, true, false, false, false] rfl rfl (take_ofW HT_.out HW_.out (by kernel_rfl)) (fun _ _ _ h => h) (Or.inl ⟨by rfl, ?_⟩) hHeld ?_ ?_
               rotate_left
               ·rintro w' ⟨s0, s1, s2, s3, s4, s5, s6, s7, s8⟩
                go_simp
                with_reducible rfl
               rotate_left
               ·simp only [Act.put, qs1, qs2, qs3, i64_w, i32_w]
                rfl
               refine take_ (i := 7) (N := some 51) (v := ?_) (a' := ?_) #[true, true, true, true, true, true, true, true, false, false] rfl rfl (take_ofW HT_.out HW_.out (by kernel_rfl)) (fun _ _ _ h => h) (Or.inl ⟨by rfl, ?_⟩) hHeld ?_ ?_
               rotate_left
               ·rintro w' ⟨s0, s1, s2, s3, s4, s5, s6, s7, s8⟩
                go_simp
                with_reducible rfl
               rotate_left
               ·simp only [Act.put, qs1, qs2, qs3, i64_w, i32_w]
                rfl
               refine pure_ (i := 8) (N := some 52) (v := ?_) (a' := ?_) #[true, true, true, true, true, true, true, true, true, false] rfl rfl (any_of HT_.out (by kernel_rfl)) (fun _ _ _ h => h) (Or.inl ⟨by rfl, ?_⟩) ?_ ?_
               rotate_left
               ·intro w'
                go_simp
                with_reducible rfl
               rotate_left
               ·simp only [Act.put, qs1, qs2, qs3, i64_w, i32_w]
                rfl
               refine pure_ (i := 9) (N := some 43) (v := ?_) (a' := ?_) #[true, true, true, true, true, true, true, true, true, true] rfl rfl (any_of HT_.out (by kernel_rfl)) (fun _ _ _ h => h) (Or.inl ⟨by rfl, ?_⟩) ?_ ?_
               rotate_left
               ·intro w'
                go_simp
                with_reducible rfl
               rotate_left
               ·simp only [Act.put, qs1, qs2, qs3, i64_w, i32_w]
                rfl
               refine done_ (done_of HT_.out (by kernel_rfl)) ?_
               try go_wp2
               have n0_ := qam (qk3 HO_183001.out)
               have n1_ := qam (qb5 BK175.out)
               have n2_ := qam (qb5 BK176.out)
               have n3_ := qam (qb5 BK182.out)
               have n4_ := qam (qw3 HB.out)
               clear HO_183001
               clear BK175
               clear BK176
               clear BK182
               clear HB
               have HO_183001 := n0_
               have BK175 := n1_
               have BK176 := n2_
               have BK182 := n3_
               have HB := n4_
               clear n0_ n1_ n2_ n3_ n4_
               have p185 : 0 ≤ ((rd l2 x28_1) : Int) := of_decide_eq_true (by first | (with_reducible assumption) | assumption)
               have q185 : (rd l2 x28_1) < (l0_1.length : Int) := of_decide_eq_true (by first | (with_reducible assumption) | assumption)
               obtain ⟨ad185, e185, hx185_0, hx185_1, hx185_2, hx185_3⟩ := at_T32 HR0_1.out (rd l2 x28_1) p185 q185
               have hw185_3 := hx185_3
               have hw185_2 := hx185_2
               have hw185_1 := hx185_1
               have hw185_0 := hx185_0
               obtain rfl : ad184 = ad185 := (by injection e185)
               replace hx185_0 := (HB.out.cell (qbl w _ hx185_0)).trans hx185_0
               replace hx185_1 := (HB.out.cell (qbl w _ hx185_1)).trans hx185_1
               replace hx185_2 := (HB.out.cell (qbl w _ hx185_2)).trans hx185_2
               replace hx185_3 := (HB.out.cell (qbl w _ hx185_3)).trans hx185_3
               replace p185 := eq_true p185
               replace q185 := eq_true q185
               obtain ⟨Ao57, co57, eo57⟩ := Kd.R_slice HO_183001.out
               (first | subst eo57 | (injection eo57 with f1_ f2_ f3_; have f4_ := f1_.symm; have f5_ := f3_.symm; clear f1_ f2_ f3_; subst f4_; subst f5_))
               refine start_ (n := 9) (S := fun w' => w'.cell? ⟨gb182, 0, none⟩ = some (.int .i64 x183000_1) ∧ w'.cell? ⟨gb182, 1, none⟩ = some (.slice Ao57 x183001_1.length co57) ∧ w'.cell? ⟨gb175, 0, none⟩ = some (.slice A0_0 l0_0.length c0_0) ∧ w'.cell? ⟨gb175, 1, none⟩ = some (.slice (some ad184) l0_1.length c0_1) ∧ w'.cell? ⟨gb175, 2, none⟩ = some (.int .i64 a0_2) ∧ w'.cell? (ad184.add (((rd l2 x28_1)).toNat * 4)) = some (.int .i64 ((rd_T32 l0_1 (rd l2 x28_1)).f0)) ∧ w'.cell? ⟨(ad184.add (((rd l2 x28_1)).toNat * 4)).block, (ad184.add (((rd l2 x28_1)).toNat * 4)).off + 1, none⟩ = some (.int .i64 ((rd_T32 l0_1 (rd l2 x28_1)).f1)) ∧ w'.cell? ⟨(ad184.add (((rd l2 x28_1)).toNat * 4)).block, (ad184.add (((rd l2 x28_1)).toNat * 4)).off + 2, none⟩ = some (.int .i64 ((rd_T32 l0_1 (rd l2 x28_1)).f2)) ∧ w'.cell? ⟨(ad184.add (((rd l2 x28_1)).toNat * 4)).block, (ad184.add (((rd l2 x28_1)).toNat * 4)).off + 3, none⟩ = some (.int .i64 ((rd_T32 l0_1 (rd l2 x28_1)).f3))) (ds := []) #[false, false, false, false, false, false, false, false, false] (by kernel_rfl) rfl rfl ⟨(qb1 BK182.out 0).trans rfl, (qb1 BK182.out 1).trans rfl, (qb1 BK175.out 0).trans rfl, (qb1 BK175.out 1).trans rfl, (qb1 BK175.out 2).trans rfl, ((HB.out.cell (qbl w _ hw185_0)).trans hw185_0), ((HB.out.cell (qbl w _ hw185_1)).trans hw185_1), ((HB.out.cell (qbl w _ hw185_2)).trans hw185_2), ((HB.out.cell (qbl w _ hw185_3)).trans hw185_3)⟩ (fun hHeld => ?_); refine with_tabW vpath_follow.tab13 vpath_follow.bits13 (fun HT_ HW_ => ?_)
               generalize w55.drew = w56 at HO_183001 BK175 BK176 BK182 HB hx185_0 hx185_1 hx185_2 hx185_3 hHeld ⊢
               refine pure_ (i := 1) (N := some 56) (v := ?_) (a' := ?_) #[false, true, false, false, false, false, false, false, false] rfl rfl (any_of HT_.out (by kernel_rfl)) (fun _ _ _ h => h) (Or.inl ⟨by rfl, ?_⟩) ?_ ?_
               rotate_left
               ·intro w'
                go_simp
                with_reducible rfl
               rotate_left
               ·simp only [Act.put, qs1, qs2, qs3, i64_w, i32_w]
                rfl
               refine pure_ (i := 3) (N := some 58) (v := ?_) (a' := ?_) #[false, true, false, true, false, false, false, false, false] rfl rfl (any_of HT_.out (by kernel_rfl)) (fun _ _ _ h => h) (Or.inl ⟨by rfl, ?_⟩) ?_ ?_
               rotate_left
               ·intro w'
                go_simp
                with_reducible rfl
               rotate_left
               ·simp only [Act.put, qs1, qs2, qs3, i64_w, i32_w]
                rfl
               refine take_ (i := 0) (N := some 55) (v := ?_) (a' := ?_) #[true, true, false, true, false, false, false, false, false] rfl rfl (take_ofW HT_.out HW_.out (by kernel_rfl)) (fun _ _ _ h => h) (Or.inl ⟨by rfl, ?_⟩) hHeld ?_ ?_
               rotate_left
               ·rintro w' ⟨s0, s1, s2, s3, s4, s5, s6, s7, s8⟩
                go_simp
                with_reducible rfl
               rotate_left
               ·simp only [Act.put, qs1, qs2, qs3, i64_w, i32_w]
                rfl
               refine take_ (i := 2) (N := some 57) (v := ?_) (a' := ?_) #[true, true, true, true, false, false, false, false, false] rfl rfl (take_ofW HT_.out HW_.out (by kernel_rfl)) (fun _ _ _ h => h) (Or.inl ⟨by rfl, ?_⟩) hHeld ?_ ?_
               rotate_left
               ·rintro w' ⟨s0, s1, s2, s3, s4, s5, s6, s7, s8⟩
                go_simp
                with_reducible rfl
               rotate_left
               ·simp only [Act.put, qs1, qs2, qs3, i64_w, i32_w]
                rfl
               refine pure_ (i := 4) (N := some 59) (v := ?_) (a' := ?_) #[true, true, true, true, true, false, false, false, false] rfl rfl (any_of HT_.out (by kernel_rfl)) (fun _ _ _ h => h) (Or.inl ⟨by rfl, ?_⟩) ?_ ?_
               rotate_left
               ·intro w'
                go_simp
                with_reducible rfl
               rotate_left
               ·simp only [Act.put, qs1, qs2, qs3, i64_w, i32_w]
                rfl
               refine take_ (i := 5) (N := some 60) (v := ?_) (a' := ?_) #[true, true, true, true, true, true, false, false, false] rfl rfl (take_ofW HT_.out HW_.out (by kernel_rfl)) (fun _ _ _ h => h) (Or.inl ⟨by rfl, ?_⟩) hHeld ?_ ?_
               rotate_left
               ·rintro w' ⟨s0, s1, s2, s3, s4, s5, s6, s7, s8⟩
                go_simp
                with_reducible rfl
               rotate_left
               ·simp only [Act.put, qs1, qs2, qs3, i64_w, i32_w]
                rfl
               refine one_ (i := 6) (N := some 61) #[true, true, true, true, true, true, true, false, false] rfl rfl (one_of HT_.out (by kernel_rfl)) (by decide) (fun K hK => ?_)
               refine goes_ Try.func100 (by kernel_rfl) rfl #[.agg #[.int .i64 x183000_1, .slice Ao57 x183001_1.length co57], .agg #[.int .i64 ((rd_T32 l0_1 (rd l2 x28_1)).f0), .int .i64 ((rd_T32 l0_1 (rd l2 x28_1)).f1), .int .i64 ((rd_T32 l0_1 (rd l2 x28_1)).f2), .int .i64 ((rd_T32 l0_1 (rd l2 x28_1)).f3)]] (by rfl) rfl rfl (by (try simp only [List.map_toArray, List.map_cons, List.map_nil]); first | done | rfl | (simp only [List.length_drop, List.length_take]; rfl)) ?_
               with_reducible refine (vpath_place_allows.calls x183000_1 _ _ x183001_1 ((rd_T32 l0_1 (rd l2 x28_1)).f0) ((rd_T32 l0_1 (rd l2 x28_1)).f1) ((rd_T32 l0_1 (rd l2 x28_1)).f2) ((rd_T32 l0_1 (rd l2 x28_1)).f3) false _ ?side1 ?side2 A43.out).mono ?_
               (case side1 => repeat (first | exact (Kd.R_reads' HO_183001.out).2.2 | (with_reducible refine Kd.C_alloc ?_ _) | (with_reducible refine Kd.C_drewN ?_ _) | (with_reducible refine Kd.C_drew ?_)))
               (case side2 => exact (Kd.R_reads' HO_183001.out).2.1)
               rintro e w58 ⟨rfl, hb⟩
               refine ⟨_, rfl, ?_⟩
               have n0_ := qam (Kd.R_below (by (with_reducible repeat (first | apply qk1 | apply qk2 | apply qk3)); exact HO_183001.out) hb)
               have n1_ := qam (blk_below (g := gb175) (o := .cells #[.slice A0_0 l0_0.length c0_0, .slice (some ad184) l0_1.length c0_1, .int .i64 a0_2] 25 (0, 0)) (by (with_reducible repeat (first | refine qb3 ?_ _ | refine qb5 ?_ | refine qb4 ?_ _)); exact BK175.out) hb)
               have n2_ := qam (blk_below (g := gb176) (o := .cells #[.int .i64 x177000_1, .slice none 0 0] 102 (0, 0)) (by (with_reducible repeat (first | refine qb3 ?_ _ | refine qb5 ?_ | refine qb4 ?_ _)); exact BK176.out) hb)
               have n3_ := qam (blk_below (g := gb182) (o := .cells #[.int .i64 x183000_1, .slice Ao57 x183001_1.length co57] 102 (0, 0)) (by (with_reducible repeat (first | refine qb3 ?_ _ | refine qb5 ?_ | refine qb4 ?_ _)); exact BK182.out) hb)
               have n4_ := qam (qw6 (by repeat (first | (with_reducible first | exact HB.out | apply qw1 | apply qw2 | apply qw3 | refine qw4 ?_ GE175.out | refine qw4 ?_ GE176.out | refine qw4 ?_ GE182.out) | exact HB.out)) hb)
               clear HO_183001
               clear BK175
               clear BK176
               clear BK182
               clear HB
               have HO_183001 := n0_
               have BK175 := n1_
               have BK176 := n2_
               have BK182 := n3_
               have HB := n4_
               clear n0_ n1_ n2_ n3_ n4_
               (try clear hb)
               (try clear hb2)
               (try clear hk)
               (try clear hi)
               refine hK.out _ _ ⟨(qb1 BK182.out 0).trans rfl, (qb1 BK182.out 1).trans rfl, (qb1 BK175.out 0).trans rfl, (qb1 BK175.out 1).trans rfl, (qb1 BK175.out 2).trans rfl, ((HB.out.cell (qbl w _ hw185_0)).trans hw185_0), ((HB.out.cell (qbl w _ hw185_1)).trans hw185_1), ((HB.out.cell (qbl w _ hw185_2)).trans hw185_2), ((HB.out.cell (qbl w _ hw185_3)).trans hw185_3)⟩ (fun hHeld => ?_)
               clear hK K
               refine norm_ (a' := ?_) ?_ ?_
               rotate_left
               ·show Act.put _ (some 61) _ = _
                simp only [Act.put, qs1, qs2, qs3, i64_w, i32_w]
                rfl
               refine pure_ (i := 7) (N := some 62) (v := ?_) (a' := ?_) #[true, true, true, true, true, true, true, true, false] rfl rfl (any_of HT_.out (by kernel_rfl)) (fun _ _ _ h => h) (Or.inl ⟨by rfl, ?_⟩) ?_ ?_
               rotate_left
               ·intro w'
                go_simp
                with_reducible rfl
               rotate_left
               ·simp only [Act.put, qs1, qs2, qs3, i64_w, i32_w]
                rfl
               refine pure_ (i := 8) (N := some 54) (v := ?_) (a' := ?_) #[true, true, true, true, true, true, true, true, true] rfl rfl (any_of HT_.out (by kernel_rfl)) (fun _ _ _ h => h) (Or.inl ⟨by rfl, ?_⟩) ?_ ?_
               rotate_left
               ·intro w'
                go_simp
                with_reducible rfl
               rotate_left
               ·simp only [Act.put, qs1, qs2, qs3, i64_w, i32_w]
                rfl
               refine done_ (done_of HT_.out (by kernel_rfl)) ?_
               have hnb59 := NB176_175.out
               have hnc59 := NB175_176.out
               have hnb60 := NB176_182.out
               have hnc60 := NB182_176.out
               have hcz61_0 : w58.cell? ⟨gb176, 0, none⟩ = some (.int .i64 x177000_1) := (qb1 BK176.out 0).trans rfl
               have hcz61_1 : w58.cell? ⟨gb176, 1, none⟩ = some (.slice none 0 0) := (qb1 BK176.out 1).trans rfl
               have hfz61_0 := qb2 BK176.out 0
               have hfz61_1 := qb2 BK176.out 1
               try go_wp2
               refine bodyPost_ret (results_ct rfl _ _ gb176 102 #[.int .i64 0, .slice none 0 0] (0, 0) _ rfl (by (with_reducible repeat (first | refine qb3 ?_ _ | refine qb5 ?_ | refine qb4 ?_ _)); refine blk_put (cs := #[.int .i64 0, .slice none 0 0]) ?_ 1 _ rfl; (with_reducible repeat (first | refine qb3 ?_ _ | refine qb5 ?_ | refine qb4 ?_ _)); refine blk_put (cs := #[.int .i64 x177000_1, .slice none 0 0]) ?_ 0 _ rfl; (with_reducible repeat (first | refine qb3 ?_ _ | refine qb5 ?_ | refine qb4 ?_ _)); exact BK176.out) Try.underlying102 rfl (by kernel_rfl)) rfl ?_
               exact ⟨_, by first | rfl | (simp [errW_none, errW_some] <;> rfl) | (simp [*, errW_none, errW_some] <;> rfl), by first | exact Kd.R_nil _ _ _ _ _ | exact Kd.N_nil _ _ _ _ _ | exact Kd.V_nil _ _ _ _ _ | exact Kd.Q_nil _ _ _ _ _ | exact Kd.S_nil _ _ _ _ _, by repeat (first | (with_reducible first | exact HB.out | apply qw1 | apply qw2 | apply qw3 | refine qw4 ?_ GE175.out | refine qw4 ?_ GE176.out | refine qw4 ?_ GE182.out) | exact HB.out)⟩
             ·rw [if_neg c42] at H
              have c42b0 : (((rd_T32 l0_1 (rd l2 x28_1)).f0) == x183000_1) = false := beq_eq_false_iff_ne.mpr c42
              have c42b1 : (((rd_T32 l0_1 (rd l2 x28_1)).f0) != x183000_1) = true := bne_iff_ne.mpr c42
              simp only [Option.some.injEq, Prod.mk.injEq] at H
              obtain ⟨rfl, rfl, rfl⟩ := H
              try go_wp2
              have n0_ := qam (qk3 HO_183001.out)
              have n1_ := qam (qb5 BK175.out)
              have n2_ := qam (qb5 BK176.out)
              have n3_ := qam (qb5 BK182.out)
              have n4_ := qam (qw3 HB.out)
              clear HO_183001
              clear BK175
              clear BK176
              clear BK182
              clear HB
              have HO_183001 := n0_
              have BK175 := n1_
              have BK176 := n2_
              have BK182 := n3_
              have HB := n4_
              clear n0_ n1_ n2_ n3_ n4_
              have p184 : 0 ≤ ((rd l2 x28_1) : Int) := of_decide_eq_true (by first | (with_reducible assumption) | assumption)
              have q184 : (rd l2 x28_1) < (l0_1.length : Int) := of_decide_eq_true (by first | (with_reducible assumption) | assumption)
              obtain ⟨ad184, e184, hx184_0, hx184_1, hx184_2, hx184_3⟩ := at_T32 HR0_1.out (rd l2 x28_1) p184 q184
              have hw184_3 := hx184_3
              have hw184_2 := hx184_2
              have hw184_1 := hx184_1
              have hw184_0 := hx184_0
              cases e184
              replace hx184_0 := (HB.out.cell (qbl w _ hx184_0)).trans hx184_0
              replace hx184_1 := (HB.out.cell (qbl w _ hx184_1)).trans hx184_1
              replace hx184_2 := (HB.out.cell (qbl w _ hx184_2)).trans hx184_2
              replace hx184_3 := (HB.out.cell (qbl w _ hx184_3)).trans hx184_3
              replace p184 := eq_true p184
              replace q184 := eq_true q184
              refine start_ (n := 10) (S := fun w' => w'.cell? ⟨gb175, 0, none⟩ = some (.slice A0_0 l0_0.length c0_0) ∧ w'.cell? ⟨gb175, 1, none⟩ = some (.slice (some ad184) l0_1.length c0_1) ∧ w'.cell? ⟨gb175, 2, none⟩ = some (.int .i64 a0_2) ∧ w'.cell? ⟨gb182, 0, none⟩ = some (.int .i64 x183000_1) ∧ w'.cell? ⟨gb182, 1, none⟩ = some (u183001) ∧ w'.cell? (ad184.add (((rd l2 x28_1)).toNat * 4)) = some (.int .i64 ((rd_T32 l0_1 (rd l2 x28_1)).f0)) ∧ w'.cell? ⟨(ad184.add (((rd l2 x28_1)).toNat * 4)).block, (ad184.add (((rd l2 x28_1)).toNat * 4)).off + 1, none⟩ = some (.int .i64 ((rd_T32 l0_1 (rd l2 x28_1)).f1)) ∧ w'.cell? ⟨(ad184.add (((rd l2 x28_1)).toNat * 4)).block, (ad184.add (((rd l2 x28_1)).toNat * 4)).off + 2, none⟩ = some (.int .i64 ((rd_T32 l0_1 (rd l2 x28_1)).f2)) ∧ w'.cell? ⟨(ad184.add (((rd l2 x28_1)).toNat * 4)).block, (ad184.add (((rd l2 x28_1)).toNat * 4)).off + 3, none⟩ = some (.int .i64 ((rd_T32 l0_1 (rd l2 x28_1)).f3))) (ds := []) #[false, false, false, false, false, false, false, false, false, false] (by kernel_rfl) rfl rfl ⟨(qb1 BK175.out 0).trans rfl, (qb1 BK175.out 1).trans rfl, (qb1 BK175.out 2).trans rfl, (qb1 BK182.out 0).trans rfl, (qb1 BK182.out 1).trans rfl, ((HB.out.cell (qbl w _ hw184_0)).trans hw184_0), ((HB.out.cell (qbl w _ hw184_1)).trans hw184_1), ((HB.out.cell (qbl w _ hw184_2)).trans hw184_2), ((HB.out.cell (qbl w _ hw184_3)).trans hw184_3)⟩ (fun hHeld => ?_); refine with_tabW vpath_follow.tab11 vpath_follow.bits11 (fun HT_ HW_ => ?_)
              generalize wc.drew = w62 at HO_183001 BK175 BK176 BK182 HB hx184_0 hx184_1 hx184_2 hx184_3 hHeld ⊢
              refine pure_ (i := 0) (N := some 44) (v := ?_) (a' := ?_) #[true, false, false, false, false, false, false, false, false, false] rfl rfl (any_of HT_.out (by kernel_rfl)) (fun _ _ _ h => h) (Or.inl ⟨by rfl, ?_⟩) ?_ ?_
              rotate_left
              ·intro w'
               go_simp
               with_reducible rfl
              rotate_left
              ·simp only [Act.put, qs1, qs2, qs3, i64_w, i32_w]
               rfl
              refine pure_ (i := 2) (N := some 46) (v := ?_) (a' := ?_) #[true, false, true, false, false, false, false, false, false, false] rfl rfl (any_of HT_.out (by kernel_rfl)) (fun _ _ _ h => h) (Or.inl ⟨by rfl, ?_⟩) ?_ ?_
              rotate_left
              ·intro w'
               go_simp
               with_reducible rfl
              rotate_left
              ·simp only [Act.put, qs1, qs2, qs3, i64_w, i32_w]
               rfl
              refine pure_ (i := 6) (N := some 50) (v := ?_) (a' := ?_) #[true, false, true, false, false, false, true, false, false, false] rfl rfl (any_of HT_.out (by kernel_rfl)) (fun _ _ _ h => h) (Or.inl ⟨by rfl, ?_⟩) ?_ ?_
              rotate_left
              ·intro w'
               go_simp
               with_reducible rfl
              rotate_left
              ·simp only [Act.put, qs1, qs2, qs3, i64_w, i32_w]
               rfl
              refine take_ (i := 1) (N := some 45) (v := ?_) (a' := ?_) #[true, true, true, false, false, false, true, false, false, false] rfl rfl (take_ofW HT_.out HW_.out (by kernel_rfl)) (fun _ _ _ h => h) (Or.inl ⟨by rfl, ?_⟩) hHeld ?_ ?_
              rotate_left
              ·rintro w' ⟨s0, s1, s2, s3, s4, s5, s6, s7, s8⟩
               go_simp
               with_reducible rfl
              rotate_left
              ·simp only [Act.put, qs1, qs2, qs3, i64_w, i32_w]
               rfl
              refine pure_ (i := 3) (N := some 47) (v := ?_) (a' := ?_) #[true, true, true, true, false, false, true, false, false, false] rfl rfl (any_of HT_.out (by kernel_rfl)) (fun _ _ _ h => h) (Or.inl ⟨by rfl, ?_⟩) ?_ ?_
              rotate_left
              ·intro w'
               go_simp
               with_reducible rfl
              rotate_left
              ·simp only [Act.put, qs1, qs2, qs3, i64_w, i32_w]
               rfl
              refine pure_ (i := 4) (N := some 48) (v := ?_) (a' := ?_) #[true, true, true, true, true, false, true, false, false, false] rfl rfl (any_of HT_.out (by kernel_rfl)) (fun _ _ _ h => h) (Or.inl ⟨by rfl, ?_⟩) ?_ ?_
              rotate_left
              ·intro w'
               go_simp
               with_reducible rfl
              rotate_left
              ·simp only [Act.put, qs1, qs2, qs3, i64_w, i32_w]
               rfl
              refine take_ (i := 5) (N := some 49) (v := ?_) (a' := ?_) #[true, true, true, true, true, true, true, false, false, false] rfl rfl (take_ofW HT_.out HW_.out (by kernel_rfl)) (fun _ _ _ h => h) (Or.inl ⟨by rfl, ?_⟩) hHeld ?_ ?_
              rotate_left
              ·rintro w' ⟨s0, s1, s2, s3, s4, s5, s6, s7, s8⟩
               go_simp
               with_reducible rfl
              rotate_left
              ·simp only [Act.put, qs1, qs2, qs3, i64_w, i32_w]
               rfl
              refine take_ (i := 7) (N := some 51) (v := ?_) (a' := ?_) #[true, true, true, true, true, true, true, true, false, false] rfl rfl (take_ofW HT_.out HW_.out (by kernel_rfl)) (fun _ _ _ h => h) (Or.inl ⟨by rfl, ?_⟩) hHeld ?_ ?_
              rotate_left
              ·rintro w' ⟨s0, s1, s2, s3, s4, s5, s6, s7, s8⟩
               go_simp
               with_reducible rfl
              rotate_left
              ·simp only [Act.put, qs1, qs2, qs3, i64_w, i32_w]
               rfl
              refine pure_ (i := 8) (N := some 52) (v := ?_) (a' := ?_) #[true, true, true, true, true, true, true, true, true, false] rfl rfl (any_of HT_.out (by kernel_rfl)) (fun _ _ _ h => h) (Or.inl ⟨by rfl, ?_⟩) ?_ ?_
              rotate_left
              ·intro w'
               go_simp
               with_reducible rfl
              rotate_left
              ·simp only [Act.put, qs1, qs2, qs3, i64_w, i32_w]
               rfl
              refine pure_ (i := 9) (N := some 43) (v := ?_) (a' := ?_) #[true, true, true, true, true, true, true, true, true, true] rfl rfl (any_of HT_.out (by kernel_rfl)) (fun _ _ _ h => h) (Or.inl ⟨by rfl, ?_⟩) ?_ ?_
              rotate_left
              ·intro w'
               go_simp
               with_reducible rfl
              rotate_left
              ·simp only [Act.put, qs1, qs2, qs3, i64_w, i32_w]
               rfl
              refine done_ (done_of HT_.out (by kernel_rfl)) ?_
              have hnb63 := NB176_175.out
              have hnc63 := NB175_176.out
              have hnb64 := NB176_182.out
              have hnc64 := NB182_176.out
              have hcz65_0 : w62.cell? ⟨gb176, 0, none⟩ = some (.int .i64 x177000_1) := (qb1 BK176.out 0).trans rfl
              have hcz65_1 : w62.cell? ⟨gb176, 1, none⟩ = some (.slice none 0 0) := (qb1 BK176.out 1).trans rfl
              have hfz65_0 := qb2 BK176.out 0
              have hfz65_1 := qb2 BK176.out 1
              try go_wp2
              refine bodyPost_ret (results_ct rfl _ _ gb176 102 #[.int .i64 0, .slice none 0 0] (0, 0) _ rfl (by (with_reducible repeat (first | refine qb3 ?_ _ | refine qb5 ?_ | refine qb4 ?_ _)); refine blk_put (cs := #[.int .i64 0, .slice none 0 0]) ?_ 1 _ rfl; (with_reducible repeat (first | refine qb3 ?_ _ | refine qb5 ?_ | refine qb4 ?_ _)); refine blk_put (cs := #[.int .i64 x177000_1, .slice none 0 0]) ?_ 0 _ rfl; (with_reducible repeat (first | refine qb3 ?_ _ | refine qb5 ?_ | refine qb4 ?_ _)); exact BK176.out) Try.underlying102 rfl (by kernel_rfl)) rfl ?_
              exact ⟨_, by first | rfl | (simp [errW_none, errW_some] <;> rfl) | (simp [*, errW_none, errW_some] <;> rfl), by first | exact Kd.R_nil _ _ _ _ _ | exact Kd.N_nil _ _ _ _ _ | exact Kd.V_nil _ _ _ _ _ | exact Kd.Q_nil _ _ _ _ _ | exact Kd.S_nil _ _ _ _ _, by repeat (first | (with_reducible first | exact HB.out | apply qw1 | apply qw2 | apply qw3 | refine qw4 ?_ GE175.out | refine qw4 ?_ GE176.out | refine qw4 ?_ GE182.out) | exact HB.out)⟩
            ·rw [if_neg c41] at H
             exact absurd H (by simp)
           ·rw [if_neg c40] at H
            exact absurd H (by simp)
       ·rw [if_neg c30] at H
        exact absurd H (by simp)
      ·rw [if_neg c29] at H
       exact absurd H (by simp)
     ·rw [if_neg c28] at H
      have c28b0 : decide (x28_1 < (l2.length : Int)) = false := decide_eq_false c28
      clear c28
      simp only [Option.some.injEq, Prod.mk.injEq] at H
      obtain ⟨rfl, rfl, rfl⟩ := H
      have hnb66 := NB182_175.out
      have hnc66 := NB175_182.out
      have hnb67 := NB182_176.out
      have hnc67 := NB176_182.out
      have hcz68_0 : wr.cell? ⟨gb182, 0, none⟩ = some (.int .i64 x183000_1) := (qb1 BK182.out 0).trans rfl
      have hcz68_1 : wr.cell? ⟨gb182, 1, none⟩ = some (u183001) := (qb1 BK182.out 1).trans rfl
      have hfz68_0 := qb2 BK182.out 0
      have hfz68_1 := qb2 BK182.out 1
      have hnb69 := NB176_175.out
      have hnc69 := NB175_176.out
      have hcz70_0 : wr.cell? ⟨gb176, 0, none⟩ = some (.int .i64 x177000_1) := (qb1 BK176.out 0).trans rfl
      have hcz70_1 : wr.cell? ⟨gb176, 1, none⟩ = some (.slice none 0 0) := (qb1 BK176.out 1).trans rfl
      have hfz70_0 := qb2 BK176.out 0
      have hfz70_1 := qb2 BK176.out 1
      obtain ⟨Ao71, co71, eo71⟩ := Kd.R_slice HO_183001.out
      subst eo71
      go_wp2
      refine bodyPost_ret (results_ct rfl _ _ gb176 102 #[.int .i64 x183000_1, .slice Ao71 x183001_1.length co71] (0, 0) _ rfl (by (with_reducible repeat (first | refine qb3 ?_ _ | refine qb5 ?_ | refine qb4 ?_ _)); refine blk_put (cs := #[.int .i64 x183000_1, .slice none 0 0]) ?_ 1 _ rfl; (with_reducible repeat (first | refine qb3 ?_ _ | refine qb5 ?_ | refine qb4 ?_ _)); refine blk_put (cs := #[.int .i64 x177000_1, .slice none 0 0]) ?_ 0 _ rfl; (with_reducible repeat (first | refine qb3 ?_ _ | refine qb5 ?_ | refine qb4 ?_ _)); exact BK176.out) Try.underlying102 rfl (by kernel_rfl)) rfl ?_
      exact ⟨_, by first | rfl | (simp [errW_none, errW_some] <;> rfl) | (simp [*, errW_none, errW_some] <;> rfl), by (with_reducible repeat (first | apply qk1 | apply qk2 | apply qk3)); exact Kd.R_mono (Kd.R_far (p := ⟨gb176, 1, none⟩) (Kd.R_far (p := ⟨gb176, 0, none⟩) (Kd.R_types HO_183001.out BK176.out (by decide)) (fun _ hk => hk.2) (.int .i64 x183000_1)) (fun _ hk => hk.2) (.slice Ao71 x183001_1.length co71)) (fun _ hk => trivial), by repeat (first | (with_reducible first | exact HB.out | apply qw1 | apply qw2 | apply qw3 | refine qw4 ?_ GE175.out | refine qw4 ?_ GE176.out | refine qw4 ?_ GE182.out) | exact HB.out)⟩
 ·rw [if_neg c5] at H
  have c5b0 : (t181 == 0) = false := beq_eq_false_iff_ne.mpr c5
  have c5b1 : (t181 != 0) = true := bne_iff_ne.mpr c5
  simp only [Option.some.injEq, Prod.mk.injEq] at H
  obtain ⟨rfl, rfl, rfl⟩ := H
  go_enter Try.func51, Try.ntmps51
  go_wp2_with (first | ((with_reducible refine gate_dst (N := 3) rfl ?_); (try (refine gate_guard (by rfl) ?_; dsimp only)); refine box_event ?hg (N := 3) ?hd (cs := #[.slice A0_0 l0_0.length c0_0, .slice A0_1 l0_1.length c0_1, .int .i64 a0_2]) (t := 25) ?hr ?_; (case hd => rfl); (case hg => rfl); (case hr => first | (go_simp; done) | (go_simp; rfl)); intro gb175 hg w72 hbox hb; have n0_ := qam (qw6 (by repeat (first | (with_reducible first | exact HB.out | apply qw1 | apply qw2 | apply qw3) | exact HB.out)) hb); have n1_ := qam (hbox); have n2_ := qam ((by rw [hg]; exact (qw5 (by repeat (first | (with_reducible first | exact HB.out | apply qw1 | apply qw2 | apply qw3) | exact HB.out))) : w.heap.size ≤ gb175)); have n3_ := qam ((by rw [hg]; exact (qw5 (by repeat (first | (with_reducible first | exact HB.out | apply qw1 | apply qw2 | apply qw3) | exact HB.out))) : w.heap.size ≤ gb175)); clear HB; have HB := n0_; have BK175 := n1_; have GW175 := n2_; have GE175 := n3_; clear n0_ n1_ n2_ n3_; clear hb hbox hg) | ((with_reducible refine gate_dst (N := 6) rfl ?_); (try (refine gate_guard (by rfl) ?_; dsimp only)); refine box_event ?hg (N := 6) ?hd (cs := #[.int .i64 0, .slice none 0 0]) (t := 102) ?hr ?_; (case hd => rfl); (case hg => rfl); (case hr => first | (go_simp; done) | (go_simp; rfl)); intro gb176 hg w73 hbox hb; have n0_ := qam (blk_below (g := gb175) (o := .cells #[.slice A0_0 l0_0.length c0_0, .slice A0_1 l0_1.length c0_1, .int .i64 a0_2] 25 (0, 0)) (by (with_reducible repeat (first | refine qb3 ?_ _ | refine qb5 ?_ | refine qb4 ?_ _)); exact BK175.out) hb); have n1_ := qam (qw6 (by repeat (first | (with_reducible first | exact HB.out | apply qw1 | apply qw2 | apply qw3 | refine qw4 ?_ GE175.out) | exact HB.out)) hb); have n2_ := qam (hbox); have n3_ := qam ((by rw [hg]; exact (qw5 (by repeat (first | (with_reducible first | exact HB.out | apply qw1 | apply qw2 | apply qw3 | refine qw4 ?_ GE175.out) | exact HB.out))) : w.heap.size ≤ gb176)); have n4_ := qam ((by rw [hg]; exact (qw5 (by repeat (first | (with_reducible first | exact HB.out | apply qw1 | apply qw2 | apply qw3 | refine qw4 ?_ GE175.out) | exact HB.out))) : w.heap.size ≤ gb176)); have n5_ := qam ((by rw [hg]; exact qnn (blk_lt (g := gb175) (o := .cells #[.slice A0_0 l0_0.length c0_0, .slice A0_1 l0_1.length c0_1, .int .i64 a0_2] 25 (0, 0)) (by (with_reducible repeat (first | refine qb3 ?_ _ | refine qb5 ?_ | refine qb4 ?_ _)); exact BK175.out)) : gb175 ≠ gb176)); have n6_ := qam ((by rw [hg]; exact Nat.ne_of_gt (blk_lt (g := gb175) (o := .cells #[.slice A0_0 l0_0.length c0_0, .slice A0_1 l0_1.length c0_1, .int .i64 a0_2] 25 (0, 0)) (by (with_reducible repeat (first | refine qb3 ?_ _ | refine qb5 ?_ | refine qb4 ?_ _)); exact BK175.out)) : gb176 ≠ gb175)); clear BK175; clear HB; have BK175 := n0_; have HB := n1_; have BK176 := n2_; have GW176 := n3_; have GE176 := n4_; have NB175_176 := n5_; have NB176_175 := n6_; clear n0_ n1_ n2_ n3_ n4_ n5_ n6_; clear hb hbox hg; have hnb74 := NB175_176.out; have hnc74 := NB176_175.out; have hcz75_0 : w73.cell? ⟨gb175, 0, none⟩ = some (.slice A0_0 l0_0.length c0_0) := (qb1 BK175.out 0).trans rfl; have hcz75_1 : w73.cell? ⟨gb175, 1, none⟩ = some (.slice A0_1 l0_1.length c0_1) := (qb1 BK175.out 1).trans rfl; have hcz75_2 : w73.cell? ⟨gb175, 2, none⟩ = some (.int .i64 a0_2) := (qb1 BK175.out 2).trans rfl; have hfz75_0 := qb2 BK175.out 0; have hfz75_1 := qb2 BK175.out 1; have hfz75_2 := qb2 BK175.out 2) | ((with_reducible refine gate_callee (f := 57) rfl ?_); refine goesL_ (some 15) rfl rfl Try.func57 (by kernel_rfl) rfl #[.agg #[.slice A0_0 l0_0.length c0_0, .slice A0_1 l0_1.length c0_1, .int .i64 a0_2], .int .i64 a1] rfl (by (try simp only [List.map_toArray, List.map_cons, List.map_nil]); first | done | rfl | (simp only [List.length_drop, List.length_take]; rfl)) ?_; (with_reducible refine (vpath_begin.calls k _ _ l0_0 _ _ l0_1 a0_2 a1 t177 t178 t181 _ ?side1 ?side2 ?side3 ?side4 A4.out).mono ?_); (case side1 => repeat (first | exact (qk4 HR0_0.out HB.out) | (with_reducible refine Kd.C_alloc ?_ _) | (with_reducible refine Kd.C_drewN ?_ _) | (with_reducible refine Kd.C_drew ?_))); (case side2 => exact HC0_0.out); (case side3 => repeat (first | exact (qk4 HR0_1.out HB.out) | (with_reducible refine Kd.C_alloc ?_ _) | (with_reducible refine Kd.C_drewN ?_ _) | (with_reducible refine Kd.C_drew ?_))); (case side4 => exact HC0_1.out); rintro e w76 ⟨v179, rfl, ho0, hb⟩; refine ⟨_, rfl, ?_⟩; have n0_ := qam (Kd.R_lower ho0 (qw5 (by repeat (first | (with_reducible first | exact HB.out | apply qw1 | apply qw2 | apply qw3 | refine qw4 ?_ GE175.out | refine qw4 ?_ GE176.out) | exact HB.out)))); have n1_ := qam (blk_below (g := gb175) (o := .cells #[.slice A0_0 l0_0.length c0_0, .slice A0_1 l0_1.length c0_1, .int .i64 a0_2] 25 (0, 0)) (by (with_reducible repeat (first | refine qb3 ?_ _ | refine qb5 ?_ | refine qb4 ?_ _)); exact BK175.out) hb); have n2_ := qam (blk_below (g := gb176) (o := .cells #[.int .i64 0, .slice none 0 0] 102 (0, 0)) (by (with_reducible repeat (first | refine qb3 ?_ _ | refine qb5 ?_ | refine qb4 ?_ _)); exact BK176.out) hb); have n3_ := qam (qw6 (by repeat (first | (with_reducible first | exact HB.out | apply qw1 | apply qw2 | apply qw3 | refine qw4 ?_ GE175.out | refine qw4 ?_ GE176.out) | exact HB.out)) hb); clear BK175; clear BK176; clear HB; have HO180 := n0_; have BK175 := n1_; have BK176 := n2_; have HB := n3_; clear n0_ n1_ n2_ n3_; (try clear hb); (try clear hb2); (try clear hk); (try clear hi); (try clear ho0)) | ((with_reducible refine gate_dst (N := 8) rfl ?_); (try (refine gate_guard (by rfl) ?_; dsimp only)); refine box_event ?hg (N := 8) ?hd (cs := #[.int .i64 0, .slice none 0 0]) (t := 102) ?hr ?_; (case hd => rfl); (case hg => rfl); (case hr => first | (go_simp; done) | (go_simp; rfl)); intro gb182 hg w77 hbox hb; have n0_ := qam (Kd.R_below (by (with_reducible repeat (first | apply qk1 | apply qk2 | apply qk3)); exact HO180.out) hb); have n1_ := qam (blk_below (g := gb175) (o := .cells #[.slice A0_0 l0_0.length c0_0, .slice A0_1 l0_1.length c0_1, .int .i64 a0_2] 25 (0, 0)) (by (with_reducible repeat (first | refine qb3 ?_ _ | refine qb5 ?_ | refine qb4 ?_ _)); exact BK175.out) hb); have n2_ := qam (blk_below (g := gb176) (o := .cells #[.int .i64 0, .slice none 0 0] 102 (0, 0)) (by (with_reducible repeat (first | refine qb3 ?_ _ | refine qb5 ?_ | refine qb4 ?_ _)); exact BK176.out) hb); have n3_ := qam (qw6 (by repeat (first | (with_reducible first | exact HB.out | apply qw1 | apply qw2 | apply qw3 | refine qw4 ?_ GE175.out | refine qw4 ?_ GE176.out) | exact HB.out)) hb); have n4_ := qam (hbox); have n5_ := qam ((by rw [hg]; exact (qw5 (by repeat (first | (with_reducible first | exact HB.out | apply qw1 | apply qw2 | apply qw3 | refine qw4 ?_ GE175.out | refine qw4 ?_ GE176.out) | exact HB.out))) : w.heap.size ≤ gb182)); have n6_ := qam ((by rw [hg]; exact (qw5 (by repeat (first | (with_reducible first | exact HB.out | apply qw1 | apply qw2 | apply qw3 | refine qw4 ?_ GE175.out | refine qw4 ?_ GE176.out) | exact HB.out))) : w.heap.size ≤ gb182)); have n7_ := qam ((by rw [hg]; exact qnn (blk_lt (g := gb175) (o := .cells #[.slice A0_0 l0_0.length c0_0, .slice A0_1 l0_1.length c0_1, .int .i64 a0_2] 25 (0, 0)) (by (with_reducible repeat (first | refine qb3 ?_ _ | refine qb5 ?_ | refine qb4 ?_ _)); exact BK175.out)) : gb175 ≠ gb182)); have n8_ := qam ((by rw [hg]; exact Nat.ne_of_gt (blk_lt (g := gb175) (o := .cells #[.slice A0_0 l0_0.length c0_0, .slice A0_1 l0_1.length c0_1, .int .i64 a0_2] 25 (0, 0)) (by (with_reducible repeat (first | refine qb3 ?_ _ | refine qb5 ?_ | refine qb4 ?_ _)); exact BK175.out)) : gb182 ≠ gb175)); have n9_ := qam ((by rw [hg]; exact qnn (blk_lt (g := gb176) (o := .cells #[.int .i64 0, .slice none 0 0] 102 (0, 0)) (by (with_reducible repeat (first | refine qb3 ?_ _ | refine qb5 ?_ | refine qb4 ?_ _)); exact BK176.out)) : gb176 ≠ gb182)); have n10_ := qam ((by rw [hg]; exact Nat.ne_of_gt (blk_lt (g := gb176) (o := .cells #[.int .i64 0, .slice none 0 0] 102 (0, 0)) (by (with_reducible repeat (first | refine qb3 ?_ _ | refine qb5 ?_ | refine qb4 ?_ _)); exact BK176.out)) : gb182 ≠ gb176)); clear HO180; clear BK175; clear BK176; clear HB; have HO180 := n0_; have BK175 := n1_; have BK176 := n2_; have HB := n3_; have BK182 := n4_; have GW182 := n5_; have GE182 := n6_; have NB175_182 := n7_; have NB182_175 := n8_; have NB176_182 := n9_; have NB182_176 := n10_; clear n0_ n1_ n2_ n3_ n4_ n5_ n6_ n7_ n8_ n9_ n10_; clear hb hbox hg; have hnb78 := NB182_175.out; have hnc78 := NB175_182.out; have hnb79 := NB182_176.out; have hnc79 := NB176_182.out; have hcz80_0 : w77.cell? ⟨gb182, 0, none⟩ = some (.int .i64 0) := (qb1 BK182.out 0).trans rfl; have hcz80_1 : w77.cell? ⟨gb182, 1, none⟩ = some (.slice none 0 0) := (qb1 BK182.out 1).trans rfl; have hfz80_0 := qb2 BK182.out 0; have hfz80_1 := qb2 BK182.out 1; obtain ⟨Ao81, co81, eo81⟩ := Kd.R_slice HO180.out; subst eo81; have hcz82_0 : w77.cell? ⟨gb176, 0, none⟩ = some (.int .i64 0) := (qb1 BK176.out 0).trans rfl; have hcz82_1 : w77.cell? ⟨gb176, 1, none⟩ = some (.slice none 0 0) := (qb1 BK176.out 1).trans rfl; have hfz82_0 := qb2 BK176.out 0; have hfz82_1 := qb2 BK176.out 1))
  refine bodyPost_ret (results_ct rfl _ _ gb176 102 #[.int .i64 0, .slice none 0 0] (0, 0) _ rfl (by (with_reducible repeat (first | refine qb3 ?_ _ | refine qb5 ?_ | refine qb4 ?_ _)); refine blk_put (cs := #[.int .i64 0, .slice none 0 0]) ?_ 1 _ rfl; (with_reducible repeat (first | refine qb3 ?_ _ | refine qb5 ?_ | refine qb4 ?_ _)); refine blk_put (cs := #[.int .i64 0, .slice none 0 0]) ?_ 0 _ rfl; (with_reducible repeat (first | refine qb3 ?_ _ | refine qb5 ?_ | refine qb4 ?_ _)); refine blk_far ?_ NB176_182.out _; (with_reducible repeat (first | refine qb3 ?_ _ | refine qb5 ?_ | refine qb4 ?_ _)); refine blk_far ?_ NB176_182.out _; (with_reducible repeat (first | refine qb3 ?_ _ | refine qb5 ?_ | refine qb4 ?_ _)); exact BK176.out) Try.underlying102 rfl (by kernel_rfl)) rfl ?_
  exact ⟨_, by first | rfl | (simp [errW_none, errW_some] <;> rfl) | (simp [*, errW_none, errW_some] <;> rfl), by first | exact Kd.R_nil _ _ _ _ _ | exact Kd.N_nil _ _ _ _ _ | exact Kd.V_nil _ _ _ _ _ | exact Kd.Q_nil _ _ _ _ _ | exact Kd.S_nil _ _ _ _ _, by repeat (first | (with_reducible first | exact HB.out | apply qw1 | apply qw2 | apply qw3 | refine qw4 ?_ GE175.out | refine qw4 ?_ GE176.out | refine qw4 ?_ GE182.out) | exact HB.out)⟩

end Go.Proofs.Ytflpelbhalndcaa.QV
