-- By a program of this session, out of the translation's own print.
import Derived.Test.YtflpelbhalndcaaQVg
import Derived.Test.YtflpelbhalndcaaQVx0
import Derived.Test.YtflpelbhalndcaaQVx2
namespace Go.Proofs.Ytflpelbhalndcaa.QV
open Go.RowKit Go.Proofs.YtflpelbhalndcaaW.PrintWords Go.Proofs.YtflpelbhalndcaaW.PrintLast Go.Proofs.YtflpelbhalndcaaW.PrintMore
attribute [local go_sem] max2_int min2_int max_two min_two max_three min_three max_four min_four   -- for this text's walks alone
set_option linter.unusedVariables false
set_option linter.unusedSimpArgs false

/-! ### super_fits: function 150 -/
mutual
def super_fits.j0 : Nat → Int → Bool → List (S35) → List (S32) → Int → Int → Int → Int → Int → Int → Int → Int → Int → Int → Int → Option (Bool)
 | 0, _, _, _, _, _, _, _, _, _, _, _, _, _, _, _ => none
 | k + 1, x22, x23, x133000, x133001, x133002, x134000, x134001, x134002, x134003, x137000, x137001, x137002, x138000, x138001, x138002 => if x23 = true then (if x134002 = 5 then (if x137001 = 2 then (if x137000 = x138000 then (if x137001 = 3 then (some false) else (if x137001 = 4 then (some false) else (some (x138001 != 1)))) else (some false)) else (some false)) else (if x137000 = x138000 then (if x137001 = 3 then (some false) else (if x137001 = 4 then (some false) else (some (x138001 != 1)))) else (some false))) else (if x22 = 2 then (if x137001 = 2 then (if x134003 = x134000 then (some (x138001 == 1)) else (some false)) else (some false)) else (if x134002 = 4 then (super_fits.j1 k 4 x133000 x133001 x133002 x134000 x134001 x134002 x134003 x137000 x137001 x137002 x138000 x138001 x138002) else (super_fits.j1 k 3 x133000 x133001 x133002 x134000 x134001 x134002 x134003 x137000 x137001 x137002 x138000 x138001 x138002)))
def super_fits.j1 : Nat → Int → List (S35) → List (S32) → Int → Int → Int → Int → Int → Int → Int → Int → Int → Int → Int → Option (Bool)
 | 0, _, _, _, _, _, _, _, _, _, _, _, _, _, _ => none
 | k + 1, x7, x133000, x133001, x133002, x134000, x134001, x134002, x134003, x137000, x137001, x137002, x138000, x138001, x138002 => if 0 ≤ x134003 then (if x134003 < (x133000.length : Int) then (if x137001 = x7 then (if ((rd_T35 x133000 x134003).f1) = 2 then (if x138000 = ((rd_T35 x133000 x134003).f0) then (if x138001 = 1 then (some false) else ((super_enters.f k x133000 x133001 x133002 x134003 x137000).bind fun t140 => (some t140))) else (some false)) else (some false)) else (some false)) else (none)) else (none)
end
def super_fits.f (k : Nat) (l0_0 : List (S35)) (l0_1 : List (S32)) (a0_2 : Int) (a1_0 : Int) (a1_1 : Int) (a1_2 : Int) (a1_3 : Int) : Option (Bool) := if 0 ≤ a1_0 then (if a1_0 < (l0_0.length : Int) then (if 0 ≤ a1_1 then (if a1_1 < (l0_0.length : Int) then (if a1_2 = 1 then (super_fits.j0 k a1_2 (a1_2 == 1) l0_0 l0_1 a0_2 a1_0 a1_1 a1_2 a1_3 ((rd_T35 l0_0 a1_0).f0) ((rd_T35 l0_0 a1_0).f1) ((rd_T35 l0_0 a1_0).f2) ((rd_T35 l0_0 a1_1).f0) ((rd_T35 l0_0 a1_1).f1) ((rd_T35 l0_0 a1_1).f2)) else (super_fits.j0 k a1_2 (a1_2 == 5) l0_0 l0_1 a0_2 a1_0 a1_1 a1_2 a1_3 ((rd_T35 l0_0 a1_0).f0) ((rd_T35 l0_0 a1_0).f1) ((rd_T35 l0_0 a1_0).f2) ((rd_T35 l0_0 a1_1).f0) ((rd_T35 l0_0 a1_1).f1) ((rd_T35 l0_0 a1_1).f2))) else (none)) else (none)) else (none)) else (none)
theorem super_fits.mono_l : ∀ k, (∀ y0 y1 y2 y3 y4 y5 y6 y7 y8 y9 y10 y11 y12 y13 y14, LeO (super_fits.j0 k y0 y1 y2 y3 y4 y5 y6 y7 y8 y9 y10 y11 y12 y13 y14) (super_fits.j0 (k + 1) y0 y1 y2 y3 y4 y5 y6 y7 y8 y9 y10 y11 y12 y13 y14)) ∧ (∀ y0 y1 y2 y3 y4 y5 y6 y7 y8 y9 y10 y11 y12 y13, LeO (super_fits.j1 k y0 y1 y2 y3 y4 y5 y6 y7 y8 y9 y10 y11 y12 y13) (super_fits.j1 (k + 1) y0 y1 y2 y3 y4 y5 y6 y7 y8 y9 y10 y11 y12 y13))
 | 0 => ⟨fun _ _ _ _ _ _ _ _ _ _ _ _ _ _ _ r h => by simp [super_fits.j0] at h, fun _ _ _ _ _ _ _ _ _ _ _ _ _ _ r h => by simp [super_fits.j1] at h⟩
 | k + 1 => by
  obtain ⟨ih0, ih1⟩ := super_fits.mono_l k
  refine ⟨?_, ?_⟩
  ·intro y0 y1 y2 y3 y4 y5 y6 y7 y8 y9 y10 y11 y12 y13 y14
   unfold super_fits.j0
   repeat' first
   | (with_reducible exact ih0 _ _ _ _ _ _ _ _ _ _ _ _ _ _ _)
   | (with_reducible exact ih1 _ _ _ _ _ _ _ _ _ _ _ _ _ _)
   | (with_reducible exact super_enters.mono _ _ _ _ _ _)
   | (with_reducible exact LeO.refl _)
   | (with_reducible exact LeO.none _)
   | (with_reducible refine LeO.ite ?_ ?_)
   | (with_reducible refine LeO.bind ?_ (fun _ => ?_))
   | exact ih0 _ _ _ _ _ _ _ _ _ _ _ _ _ _ _
   | exact ih1 _ _ _ _ _ _ _ _ _ _ _ _ _ _
   | exact super_enters.mono _ _ _ _ _ _
   | exact LeO.none _
   | refine LeO.ite ?_ ?_
   | refine LeO.bind ?_ (fun _ => ?_)
  ·intro y0 y1 y2 y3 y4 y5 y6 y7 y8 y9 y10 y11 y12 y13
   unfold super_fits.j1
   repeat' first
   | (with_reducible exact ih0 _ _ _ _ _ _ _ _ _ _ _ _ _ _ _)
   | (with_reducible exact ih1 _ _ _ _ _ _ _ _ _ _ _ _ _ _)
   | (with_reducible exact super_enters.mono _ _ _ _ _ _)
   | (with_reducible exact LeO.refl _)
   | (with_reducible exact LeO.none _)
   | (with_reducible refine LeO.ite ?_ ?_)
   | (with_reducible refine LeO.bind ?_ (fun _ => ?_))
   | exact ih0 _ _ _ _ _ _ _ _ _ _ _ _ _ _ _
   | exact ih1 _ _ _ _ _ _ _ _ _ _ _ _ _ _
   | exact super_enters.mono _ _ _ _ _ _
   | exact LeO.none _
   | refine LeO.ite ?_ ?_
   | refine LeO.bind ?_ (fun _ => ?_)
theorem super_fits.mono : ∀ a0 a1 a2 a3 a4 a5 a6 k, LeO (super_fits.f k a0 a1 a2 a3 a4 a5 a6) (super_fits.f (k + 1) a0 a1 a2 a3 a4 a5 a6) := by
 intro a0 a1 a2 a3 a4 a5 a6 k
 obtain ⟨ih0, ih1⟩ := super_fits.mono_l k
 unfold super_fits.f
 repeat' first
   | (with_reducible exact ih0 _ _ _ _ _ _ _ _ _ _ _ _ _ _ _)
   | (with_reducible exact ih1 _ _ _ _ _ _ _ _ _ _ _ _ _ _)
   | (with_reducible exact super_enters.mono _ _ _ _ _ _)
   | (with_reducible exact LeO.refl _)
   | (with_reducible exact LeO.none _)
   | (with_reducible refine LeO.ite ?_ ?_)
   | (with_reducible refine LeO.bind ?_ (fun _ => ?_))
   | exact ih0 _ _ _ _ _ _ _ _ _ _ _ _ _ _ _
   | exact ih1 _ _ _ _ _ _ _ _ _ _ _ _ _ _
   | exact super_enters.mono _ _ _ _ _ _
   | exact LeO.none _
   | refine LeO.ite ?_ ?_
   | refine LeO.bind ?_ (fun _ => ?_)
def super_fits.T1 : Bool × List (List Nat × List Nat) := (true, [([], []), ([0], [0]), ([], []), ([2], [2]), ([1, 3], [1, 3]), ([4], [4]), ([], []), ([6], [6]), ([], []), ([8], [8]), ([7, 9], [7, 9]), ([10], [10]), ([], []), ([], []), ([12, 5, 0, 1, 2, 3, 4, 5, 12, 13], [5, 12]), ([13, 11, 14, 0, 1, 2, 3, 4, 5, 6, 7, 8, 9, 10, 11, 12, 13, 14], [11, 13])])
def super_fits.B1 : List Nat := [0, 1, 0, 4, 15, 31, 0, 64, 0, 256, 960, 1984, 0, 0, 12351, 32767]
theorem super_fits.tab1 : rtab .any (opsOf Try.f150 1) = super_fits.T1 := by kernel_rfl
theorem super_fits.bits1 : waitsOk super_fits.T1.2 super_fits.B1 = true := by kernel_rfl
set_option maxHeartbeats 8000000 in
set_option maxRecDepth 100000 in
theorem super_fits.calls (k : Nat) (A0_0 : Option Addr) (c0_0 : Nat) (l0_0 : List (S35)) (A0_1 : Option Addr) (c0_1 : Nat) (l0_1 : List (S32)) (a0_2 : Int) (a1_0 : Int) (a1_1 : Int) (a1_2 : Int) (a1_3 : Int) (r : Bool) (w : World) (hr0_0 : Kd.C k35 w A0_0 l0_0.length l0_0) (hc0_0 : l0_0.length ≤ c0_0) (hr0_1 : Kd.C k32 w A0_1 l0_1.length l0_1) (hc0_1 : l0_1.length ≤ c0_1) (h : super_fits.f k l0_0 l0_1 a0_2 a1_0 a1_1 a1_2 a1_3 = some r) :
  Calls Try.prog 150 #[.agg #[.slice A0_0 l0_0.length c0_0, .slice A0_1 l0_1.length c0_1, .int .i64 a0_2], .agg #[.int .i64 a1_0, .int .i64 a1_1, .int .i64 a1_2, .int .i64 a1_3]] w fun e w' => e = .returned (.bool r) ∧ Below w.heap.size w w' := by
 have hu25 := Try.underlying25
 have hu32 := Try.underlying32
 have hu35 := Try.underlying35
 have HR0_0 := qam hr0_0
 have HC0_0 := qam hc0_0
 clear hr0_0 hc0_0
 have HR0_1 := qam hr0_1
 have HC0_1 := qam hc0_1
 clear hr0_1 hc0_1
 have HB := qam (Below.refl w.heap.size w)
 have H : (if 0 ≤ a1_0 then (if a1_0 < (l0_0.length : Int) then (if 0 ≤ a1_1 then (if a1_1 < (l0_0.length : Int) then (if a1_2 = 1 then (super_fits.j0 k a1_2 (a1_2 == 1) l0_0 l0_1 a0_2 a1_0 a1_1 a1_2 a1_3 ((rd_T35 l0_0 a1_0).f0) ((rd_T35 l0_0 a1_0).f1) ((rd_T35 l0_0 a1_0).f2) ((rd_T35 l0_0 a1_1).f0) ((rd_T35 l0_0 a1_1).f1) ((rd_T35 l0_0 a1_1).f2)) else (super_fits.j0 k a1_2 (a1_2 == 5) l0_0 l0_1 a0_2 a1_0 a1_1 a1_2 a1_3 ((rd_T35 l0_0 a1_0).f0) ((rd_T35 l0_0 a1_0).f1) ((rd_T35 l0_0 a1_0).f2) ((rd_T35 l0_0 a1_1).f0) ((rd_T35 l0_0 a1_1).f1) ((rd_T35 l0_0 a1_1).f2))) else (none)) else (none)) else (none)) else (none)) = some r := h
 clear h
 by_cases c3 : 0 ≤ a1_0
 ·rw [if_pos c3] at H
  have c3b0 : decide (0 ≤ a1_0) = true := decide_eq_true c3
  clear c3
  by_cases c4 : a1_0 < (l0_0.length : Int)
  ·rw [if_pos c4] at H
   have c4b0 : decide (a1_0 < (l0_0.length : Int)) = true := decide_eq_true c4
   clear c4
   by_cases c5 : 0 ≤ a1_1
   ·rw [if_pos c5] at H
    have c5b0 : decide (0 ≤ a1_1) = true := decide_eq_true c5
    clear c5
    by_cases c6 : a1_1 < (l0_0.length : Int)
    ·rw [if_pos c6] at H
     have c6b0 : decide (a1_1 < (l0_0.length : Int)) = true := decide_eq_true c6
     clear c6
     have HC7 := qam H
     clear H
     go_enter Try.func150, Try.ntmps150
     try go_wp2_with (first | ((with_reducible refine gate_dst (N := 2) rfl ?_); refine box_event ?hg (N := 2) ?hd (cs := #[.slice A0_0 l0_0.length c0_0, .slice A0_1 l0_1.length c0_1, .int .i64 a0_2]) (t := 25) ?hr ?_; (case hd => rfl); (case hg => rfl); (case hr => first | (go_simp; done) | (go_simp; rfl)); intro gb132 hg w8 hbox hb; have n0_ := qam (qw6 (by repeat (first | (with_reducible first | exact HB.out | apply qw1 | apply qw2 | apply qw3) | exact HB.out)) hb); have n1_ := qam (hbox); have n2_ := qam ((by rw [hg]; exact (qw5 (by repeat (first | (with_reducible first | exact HB.out | apply qw1 | apply qw2 | apply qw3) | exact HB.out))) : w.heap.size ≤ gb132)); have n3_ := qam ((by rw [hg]; exact (qw5 (by repeat (first | (with_reducible first | exact HB.out | apply qw1 | apply qw2 | apply qw3) | exact HB.out))) : w.heap.size ≤ gb132)); clear HB; have HB := n0_; have BK132 := n1_; have GW132 := n2_; have GE132 := n3_; clear n0_ n1_ n2_ n3_; clear hb hbox hg) | ((with_reducible refine gate_dst (N := 3) rfl ?_); refine box_event ?hg (N := 3) ?hd (cs := #[.int .i64 a1_0, .int .i64 a1_1, .int .i64 a1_2, .int .i64 a1_3]) (t := 32) ?hr ?_; (case hd => rfl); (case hg => rfl); (case hr => first | (go_simp; done) | (go_simp; rfl)); intro gb133 hg w9 hbox hb; have n0_ := qam (blk_below (g := gb132) (o := .cells #[.slice A0_0 l0_0.length c0_0, .slice A0_1 l0_1.length c0_1, .int .i64 a0_2] 25 (0, 0)) (by (with_reducible repeat (first | refine qb3 ?_ _ | refine qb5 ?_ | refine qb4 ?_ _)); exact BK132.out) hb); have n1_ := qam (qw6 (by repeat (first | (with_reducible first | exact HB.out | apply qw1 | apply qw2 | apply qw3 | refine qw4 ?_ GE132.out) | exact HB.out)) hb); have n2_ := qam (hbox); have n3_ := qam ((by rw [hg]; exact (qw5 (by repeat (first | (with_reducible first | exact HB.out | apply qw1 | apply qw2 | apply qw3 | refine qw4 ?_ GE132.out) | exact HB.out))) : w.heap.size ≤ gb133)); have n4_ := qam ((by rw [hg]; exact (qw5 (by repeat (first | (with_reducible first | exact HB.out | apply qw1 | apply qw2 | apply qw3 | refine qw4 ?_ GE132.out) | exact HB.out))) : w.heap.size ≤ gb133)); have n5_ := qam ((by rw [hg]; exact qnn (blk_lt (g := gb132) (o := .cells #[.slice A0_0 l0_0.length c0_0, .slice A0_1 l0_1.length c0_1, .int .i64 a0_2] 25 (0, 0)) (by (with_reducible repeat (first | refine qb3 ?_ _ | refine qb5 ?_ | refine qb4 ?_ _)); exact BK132.out)) : gb132 ≠ gb133)); have n6_ := qam ((by rw [hg]; exact Nat.ne_of_gt (blk_lt (g := gb132) (o := .cells #[.slice A0_0 l0_0.length c0_0, .slice A0_1 l0_1.length c0_1, .int .i64 a0_2] 25 (0, 0)) (by (with_reducible repeat (first | refine qb3 ?_ _ | refine qb5 ?_ | refine qb4 ?_ _)); exact BK132.out)) : gb133 ≠ gb132)); clear BK132; clear HB; have BK132 := n0_; have HB := n1_; have BK133 := n2_; have GW133 := n3_; have GE133 := n4_; have NB132_133 := n5_; have NB133_132 := n6_; clear n0_ n1_ n2_ n3_ n4_ n5_ n6_; clear hb hbox hg))
     have n0_ := qam (qb5 BK132.out)
     have n1_ := qam (qb5 BK133.out)
     have n2_ := qam (qw3 HB.out)
     clear BK132
     clear BK133
     clear HB
     have BK132 := n0_
     have BK133 := n1_
     have HB := n2_
     clear n0_ n1_ n2_
     have p134 : 0 ≤ (a1_0 : Int) := of_decide_eq_true (by first | (with_reducible assumption) | assumption)
     have q134 : a1_0 < (l0_0.length : Int) := of_decide_eq_true (by first | (with_reducible assumption) | assumption)
     obtain ⟨ad134, e134, hx134_0, hx134_1, hx134_2⟩ := at_T35 HR0_0.out a1_0 p134 q134
     have hw134_2 := hx134_2
     have hw134_1 := hx134_1
     have hw134_0 := hx134_0
     cases e134
     replace hx134_0 := (HB.out.cell (qbl w _ hx134_0)).trans hx134_0
     replace hx134_1 := (HB.out.cell (qbl w _ hx134_1)).trans hx134_1
     replace hx134_2 := (HB.out.cell (qbl w _ hx134_2)).trans hx134_2
     replace p134 := eq_true p134
     replace q134 := eq_true q134
     have p135 : 0 ≤ (a1_1 : Int) := of_decide_eq_true (by first | (with_reducible assumption) | assumption)
     have q135 : a1_1 < (l0_0.length : Int) := of_decide_eq_true (by first | (with_reducible assumption) | assumption)
     obtain ⟨ad135, e135, hx135_0, hx135_1, hx135_2⟩ := at_T35 HR0_0.out a1_1 p135 q135
     have hw135_2 := hx135_2
     have hw135_1 := hx135_1
     have hw135_0 := hx135_0
     obtain rfl : ad134 = ad135 := (by injection e135)
     replace hx135_0 := (HB.out.cell (qbl w _ hx135_0)).trans hx135_0
     replace hx135_1 := (HB.out.cell (qbl w _ hx135_1)).trans hx135_1
     replace hx135_2 := (HB.out.cell (qbl w _ hx135_2)).trans hx135_2
     replace p135 := eq_true p135
     replace q135 := eq_true q135
     refine start_ (n := 16) (S := fun w' => w'.cell? ⟨gb132, 0, none⟩ = some (.slice (some ad134) l0_0.length c0_0) ∧ w'.cell? ⟨gb132, 1, none⟩ = some (.slice A0_1 l0_1.length c0_1) ∧ w'.cell? ⟨gb132, 2, none⟩ = some (.int .i64 a0_2) ∧ w'.cell? ⟨gb133, 0, none⟩ = some (.int .i64 a1_0) ∧ w'.cell? ⟨gb133, 1, none⟩ = some (.int .i64 a1_1) ∧ w'.cell? ⟨gb133, 2, none⟩ = some (.int .i64 a1_2) ∧ w'.cell? ⟨gb133, 3, none⟩ = some (.int .i64 a1_3) ∧ w'.cell? (ad134.add ((a1_0).toNat * 3)) = some (.int .i64 ((rd_T35 l0_0 a1_0).f0)) ∧ w'.cell? ⟨(ad134.add ((a1_0).toNat * 3)).block, (ad134.add ((a1_0).toNat * 3)).off + 1, none⟩ = some (.int .i64 ((rd_T35 l0_0 a1_0).f1)) ∧ w'.cell? ⟨(ad134.add ((a1_0).toNat * 3)).block, (ad134.add ((a1_0).toNat * 3)).off + 2, none⟩ = some (.int .i64 ((rd_T35 l0_0 a1_0).f2)) ∧ w'.cell? (ad134.add ((a1_1).toNat * 3)) = some (.int .i64 ((rd_T35 l0_0 a1_1).f0)) ∧ w'.cell? ⟨(ad134.add ((a1_1).toNat * 3)).block, (ad134.add ((a1_1).toNat * 3)).off + 1, none⟩ = some (.int .i64 ((rd_T35 l0_0 a1_1).f1)) ∧ w'.cell? ⟨(ad134.add ((a1_1).toNat * 3)).block, (ad134.add ((a1_1).toNat * 3)).off + 2, none⟩ = some (.int .i64 ((rd_T35 l0_0 a1_1).f2))) (ds := []) #[false, false, false, false, false, false, false, false, false, false, false, false, false, false, false, false] (by kernel_rfl) rfl rfl ⟨(qb1 BK132.out 0).trans rfl, (qb1 BK132.out 1).trans rfl, (qb1 BK132.out 2).trans rfl, (qb1 BK133.out 0).trans rfl, (qb1 BK133.out 1).trans rfl, (qb1 BK133.out 2).trans rfl, (qb1 BK133.out 3).trans rfl, ((HB.out.cell (qbl w _ hw134_0)).trans hw134_0), ((HB.out.cell (qbl w _ hw134_1)).trans hw134_1), ((HB.out.cell (qbl w _ hw134_2)).trans hw134_2), ((HB.out.cell (qbl w _ hw135_0)).trans hw135_0), ((HB.out.cell (qbl w _ hw135_1)).trans hw135_1), ((HB.out.cell (qbl w _ hw135_2)).trans hw135_2)⟩ (fun hHeld => ?_); refine with_tabW super_fits.tab1 super_fits.bits1 (fun HT_ HW_ => ?_)
     generalize w9.drew = w10 at BK132 BK133 HB hx134_0 hx134_1 hx134_2 hx135_0 hx135_1 hx135_2 hHeld ⊢
     refine pure_ (i := 0) (N := some 9) (v := ?_) (a' := ?_) #[true, false, false, false, false, false, false, false, false, false, false, false, false, false, false, false] rfl rfl (any_of HT_.out (by kernel_rfl)) (fun _ _ _ h => h) (Or.inl ⟨by rfl, ?_⟩) ?_ ?_
     rotate_left
     ·intro w'
      go_simp
      with_reducible rfl
     rotate_left
     ·simp only [Act.put, qs1, qs2, qs3, i64_w, i32_w]
      rfl
     refine pure_ (i := 2) (N := some 11) (v := ?_) (a' := ?_) #[true, false, true, false, false, false, false, false, false, false, false, false, false, false, false, false] rfl rfl (any_of HT_.out (by kernel_rfl)) (fun _ _ _ h => h) (Or.inl ⟨by rfl, ?_⟩) ?_ ?_
     rotate_left
     ·intro w'
      go_simp
      with_reducible rfl
     rotate_left
     ·simp only [Act.put, qs1, qs2, qs3, i64_w, i32_w]
      rfl
     refine pure_ (i := 6) (N := some 15) (v := ?_) (a' := ?_) #[true, false, true, false, false, false, true, false, false, false, false, false, false, false, false, false] rfl rfl (any_of HT_.out (by kernel_rfl)) (fun _ _ _ h => h) (Or.inl ⟨by rfl, ?_⟩) ?_ ?_
     rotate_left
     ·intro w'
      go_simp
      with_reducible rfl
     rotate_left
     ·simp only [Act.put, qs1, qs2, qs3, i64_w, i32_w]
      rfl
     refine pure_ (i := 8) (N := some 17) (v := ?_) (a' := ?_) #[true, false, true, false, false, false, true, false, true, false, false, false, false, false, false, false] rfl rfl (any_of HT_.out (by kernel_rfl)) (fun _ _ _ h => h) (Or.inl ⟨by rfl, ?_⟩) ?_ ?_
     rotate_left
     ·intro w'
      go_simp
      with_reducible rfl
     rotate_left
     ·simp only [Act.put, qs1, qs2, qs3, i64_w, i32_w]
      rfl
     refine take_ (i := 1) (N := some 10) (v := ?_) (a' := ?_) #[true, true, true, false, false, false, true, false, true, false, false, false, false, false, false, false] rfl rfl (take_ofW HT_.out HW_.out (by kernel_rfl)) (fun _ _ _ h => h) (Or.inl ⟨by rfl, ?_⟩) hHeld ?_ ?_
     rotate_left
     ·rintro w' ⟨s0, s1, s2, s3, s4, s5, s6, s7, s8, s9, s10, s11, s12⟩
      go_simp
      with_reducible rfl
     rotate_left
     ·simp only [Act.put, qs1, qs2, qs3, i64_w, i32_w]
      rfl
     refine take_ (i := 3) (N := some 12) (v := ?_) (a' := ?_) #[true, true, true, true, false, false, true, false, true, false, false, false, false, false, false, false] rfl rfl (take_ofW HT_.out HW_.out (by kernel_rfl)) (fun _ _ _ h => h) (Or.inl ⟨by rfl, ?_⟩) hHeld ?_ ?_
     rotate_left
     ·rintro w' ⟨s0, s1, s2, s3, s4, s5, s6, s7, s8, s9, s10, s11, s12⟩
      go_simp
      with_reducible rfl
     rotate_left
     ·simp only [Act.put, qs1, qs2, qs3, i64_w, i32_w]
      rfl
     refine pure_ (i := 4) (N := some 13) (v := ?_) (a' := ?_) #[true, true, true, true, true, false, true, false, true, false, false, false, false, false, false, false] rfl rfl (any_of HT_.out (by kernel_rfl)) (fun _ _ _ h => h) (Or.inl ⟨by rfl, ?_⟩) ?_ ?_
     rotate_left
     ·intro w'
      go_simp
      with_reducible rfl
     rotate_left
     ·simp only [Act.put, qs1, qs2, qs3, i64_w, i32_w]
      rfl
     refine take_ (i := 5) (N := some 14) (v := ?_) (a' := ?_) #[true, true, true, true, true, true, true, false, true, false, false, false, false, false, false, false] rfl rfl (take_ofW HT_.out HW_.out (by kernel_rfl)) (fun _ _ _ h => h) (Or.inl ⟨by rfl, ?_⟩) hHeld ?_ ?_
     rotate_left
     ·rintro w' ⟨s0, s1, s2, s3, s4, s5, s6, s7, s8, s9, s10, s11, s12⟩
      go_simp
      with_reducible rfl
     rotate_left
     ·simp only [Act.put, qs1, qs2, qs3, i64_w, i32_w]
      rfl
     refine take_ (i := 7) (N := some 16) (v := ?_) (a' := ?_) #[true, true, true, true, true, true, true, true, true, false, false, false, false, false, false, false] rfl rfl (take_ofW HT_.out HW_.out (by kernel_rfl)) (fun _ _ _ h => h) (Or.inl ⟨by rfl, ?_⟩) hHeld ?_ ?_
     rotate_left
     ·rintro w' ⟨s0, s1, s2, s3, s4, s5, s6, s7, s8, s9, s10, s11, s12⟩
      go_simp
      with_reducible rfl
     rotate_left
     ·simp only [Act.put, qs1, qs2, qs3, i64_w, i32_w]
      rfl
     refine take_ (i := 9) (N := some 18) (v := ?_) (a' := ?_) #[true, true, true, true, true, true, true, true, true, true, false, false, false, false, false, false] rfl rfl (take_ofW HT_.out HW_.out (by kernel_rfl)) (fun _ _ _ h => h) (Or.inl ⟨by rfl, ?_⟩) hHeld ?_ ?_
     rotate_left
     ·rintro w' ⟨s0, s1, s2, s3, s4, s5, s6, s7, s8, s9, s10, s11, s12⟩
      go_simp
      with_reducible rfl
     rotate_left
     ·simp only [Act.put, qs1, qs2, qs3, i64_w, i32_w]
      rfl
     refine pure_ (i := 10) (N := some 19) (v := ?_) (a' := ?_) #[true, true, true, true, true, true, true, true, true, true, true, false, false, false, false, false] rfl rfl (any_of HT_.out (by kernel_rfl)) (fun _ _ _ h => h) (Or.inl ⟨by rfl, ?_⟩) ?_ ?_
     rotate_left
     ·intro w'
      go_simp
      with_reducible rfl
     rotate_left
     ·simp only [Act.put, qs1, qs2, qs3, i64_w, i32_w]
      rfl
     refine take_ (i := 11) (N := some 20) (v := ?_) (a' := ?_) #[true, true, true, true, true, true, true, true, true, true, true, true, false, false, false, false] rfl rfl (take_ofW HT_.out HW_.out (by kernel_rfl)) (fun _ _ _ h => h) (Or.inl ⟨by rfl, ?_⟩) hHeld ?_ ?_
     rotate_left
     ·rintro w' ⟨s0, s1, s2, s3, s4, s5, s6, s7, s8, s9, s10, s11, s12⟩
      go_simp
      with_reducible rfl
     rotate_left
     ·simp only [Act.put, qs1, qs2, qs3, i64_w, i32_w]
      rfl
     refine join_ (σ := Nat × Nat) 2 #[true, true, true, true, true, true, true, true, true, true, true, true, true, true, false, false] (fun s_ => [(5, .pointer (some ⟨s_.1, 0, none⟩)), (6, .pointer (some ⟨s_.2, 0, none⟩))]) (fun s_ w' => (w'.cell? ⟨gb132, 0, none⟩ = some (.slice (some ad134) l0_0.length c0_0) ∧ w'.cell? ⟨gb132, 1, none⟩ = some (.slice A0_1 l0_1.length c0_1) ∧ w'.cell? ⟨gb132, 2, none⟩ = some (.int .i64 a0_2) ∧ w'.cell? ⟨gb133, 0, none⟩ = some (.int .i64 a1_0) ∧ w'.cell? ⟨gb133, 1, none⟩ = some (.int .i64 a1_1) ∧ w'.cell? ⟨gb133, 2, none⟩ = some (.int .i64 a1_2) ∧ w'.cell? ⟨gb133, 3, none⟩ = some (.int .i64 a1_3) ∧ w'.cell? (ad134.add ((a1_0).toNat * 3)) = some (.int .i64 ((rd_T35 l0_0 a1_0).f0)) ∧ w'.cell? ⟨(ad134.add ((a1_0).toNat * 3)).block, (ad134.add ((a1_0).toNat * 3)).off + 1, none⟩ = some (.int .i64 ((rd_T35 l0_0 a1_0).f1)) ∧ w'.cell? ⟨(ad134.add ((a1_0).toNat * 3)).block, (ad134.add ((a1_0).toNat * 3)).off + 2, none⟩ = some (.int .i64 ((rd_T35 l0_0 a1_0).f2)) ∧ w'.cell? (ad134.add ((a1_1).toNat * 3)) = some (.int .i64 ((rd_T35 l0_0 a1_1).f0)) ∧ w'.cell? ⟨(ad134.add ((a1_1).toNat * 3)).block, (ad134.add ((a1_1).toNat * 3)).off + 1, none⟩ = some (.int .i64 ((rd_T35 l0_0 a1_1).f1)) ∧ w'.cell? ⟨(ad134.add ((a1_1).toNat * 3)).block, (ad134.add ((a1_1).toNat * 3)).off + 2, none⟩ = some (.int .i64 ((rd_T35 l0_0 a1_1).f2))) ∧ (w'.heap[gb132]? = some (.cells #[.slice (some ad134) l0_0.length c0_0, .slice A0_1 l0_1.length c0_1, .int .i64 a0_2] 25 (0, 0))) ∧ (w'.heap[gb133]? = some (.cells #[.int .i64 a1_0, .int .i64 a1_1, .int .i64 a1_2, .int .i64 a1_3] 32 (0, 0))) ∧ (w'.heap[s_.1]? = some (.cells #[.int .i64 0, .int .i64 0, .int .i64 0] 35 (0, 0))) ∧ (w'.heap[s_.2]? = some (.cells #[.int .i64 0, .int .i64 0, .int .i64 0] 35 (0, 0))) ∧ (w.heap.size ≤ s_.1) ∧ (w.heap.size ≤ s_.1) ∧ (gb132 ≠ s_.1) ∧ (s_.1 ≠ gb132) ∧ (gb133 ≠ s_.1) ∧ (s_.1 ≠ gb133) ∧ (s_.2 ≠ s_.1) ∧ (s_.1 ≠ s_.2) ∧ (w.heap.size ≤ s_.2) ∧ (w.heap.size ≤ s_.2) ∧ (gb132 ≠ s_.2) ∧ (s_.2 ≠ gb132) ∧ (gb133 ≠ s_.2) ∧ (s_.2 ≠ gb133) ∧ (Below w.heap.size w w')) ?_ ?_
     rotate_left
     ·intro hCont
      refine two_ (i := 12) (j := 13) (Ni := some 5) (Nj := some 6) #[true, true, true, true, true, true, true, true, true, true, true, true, true, false, false, false] #[true, true, true, true, true, true, true, true, true, true, true, true, false, true, false, false] rfl rfl rfl rfl (two_of HT_.out (by kernel_rfl)) (by decide) (by decide) (fun K hK => ?_) (fun K hK => ?_)
      ·skip
       refine box_step ?hg (N := 5) ?hd (cs := #[.int .i64 0, .int .i64 0, .int .i64 0]) (t := 35) ?hr ?_; (case hd => rfl); (case hg => rfl); (case hr => first | (go_simp; done) | (go_simp; rfl))
       intro gb136 hg w11 hbox hb
       have n0_ := qam (blk_below (g := gb132) (o := .cells #[.slice (some ad134) l0_0.length c0_0, .slice A0_1 l0_1.length c0_1, .int .i64 a0_2] 25 (0, 0)) (by (with_reducible repeat (first | refine qb3 ?_ _ | refine qb5 ?_ | refine qb4 ?_ _)); exact BK132.out) hb)
       have n1_ := qam (blk_below (g := gb133) (o := .cells #[.int .i64 a1_0, .int .i64 a1_1, .int .i64 a1_2, .int .i64 a1_3] 32 (0, 0)) (by (with_reducible repeat (first | refine qb3 ?_ _ | refine qb5 ?_ | refine qb4 ?_ _)); exact BK133.out) hb)
       have n2_ := qam (qw6 (by repeat (first | (with_reducible first | exact HB.out | apply qw1 | apply qw2 | apply qw3 | refine qw4 ?_ GE132.out | refine qw4 ?_ GE133.out) | exact HB.out)) hb)
       have n3_ := qam (hbox)
       have n4_ := qam ((by rw [hg]; exact (qw5 (by repeat (first | (with_reducible first | exact HB.out | apply qw1 | apply qw2 | apply qw3 | refine qw4 ?_ GE132.out | refine qw4 ?_ GE133.out) | exact HB.out))) : w.heap.size ≤ gb136))
       have n5_ := qam ((by rw [hg]; exact (qw5 (by repeat (first | (with_reducible first | exact HB.out | apply qw1 | apply qw2 | apply qw3 | refine qw4 ?_ GE132.out | refine qw4 ?_ GE133.out) | exact HB.out))) : w.heap.size ≤ gb136))
       have n6_ := qam ((by rw [hg]; exact qnn (blk_lt (g := gb132) (o := .cells #[.slice (some ad134) l0_0.length c0_0, .slice A0_1 l0_1.length c0_1, .int .i64 a0_2] 25 (0, 0)) (by (with_reducible repeat (first | refine qb3 ?_ _ | refine qb5 ?_ | refine qb4 ?_ _)); exact BK132.out)) : gb132 ≠ gb136))
       have n7_ := qam ((by rw [hg]; exact Nat.ne_of_gt (blk_lt (g := gb132) (o := .cells #[.slice (some ad134) l0_0.length c0_0, .slice A0_1 l0_1.length c0_1, .int .i64 a0_2] 25 (0, 0)) (by (with_reducible repeat (first | refine qb3 ?_ _ | refine qb5 ?_ | refine qb4 ?_ _)); exact BK132.out)) : gb136 ≠ gb132))
       have n8_ := qam ((by rw [hg]; exact qnn (blk_lt (g := gb133) (o := .cells #[.int .i64 a1_0, .int .i64 a1_1, .int .i64 a1_2, .int .i64 a1_3] 32 (0, 0)) (by (with_reducible repeat (first | refine qb3 ?_ _ | refine qb5 ?_ | refine qb4 ?_ _)); exact BK133.out)) : gb133 ≠ gb136))
       have n9_ := qam ((by rw [hg]; exact Nat.ne_of_gt (blk_lt (g := gb133) (o := .cells #[.int .i64 a1_0, .int .i64 a1_1, .int .i64 a1_2, .int .i64 a1_3] 32 (0, 0)) (by (with_reducible repeat (first | refine qb3 ?_ _ | refine qb5 ?_ | refine qb4 ?_ _)); exact BK133.out)) : gb136 ≠ gb133))
       clear BK132
       clear BK133
       clear HB
       have BK132 := n0_
       have BK133 := n1_
       have HB := n2_
       have BK136 := n3_
       have GW136 := n4_
       have GE136 := n5_
       have NB132_136 := n6_
       have NB136_132 := n7_
       have NB133_136 := n8_
       have NB136_133 := n9_
       clear n0_ n1_ n2_ n3_ n4_ n5_ n6_ n7_ n8_ n9_
       clear hb hbox hg
       refine hK.out _ _ ⟨(qb1 BK132.out 0).trans rfl, (qb1 BK132.out 1).trans rfl, (qb1 BK132.out 2).trans rfl, (qb1 BK133.out 0).trans rfl, (qb1 BK133.out 1).trans rfl, (qb1 BK133.out 2).trans rfl, (qb1 BK133.out 3).trans rfl, ((HB.out.cell (qbl w _ hw134_0)).trans hw134_0), ((HB.out.cell (qbl w _ hw134_1)).trans hw134_1), ((HB.out.cell (qbl w _ hw134_2)).trans hw134_2), ((HB.out.cell (qbl w _ hw135_0)).trans hw135_0), ((HB.out.cell (qbl w _ hw135_1)).trans hw135_1), ((HB.out.cell (qbl w _ hw135_2)).trans hw135_2)⟩ (fun hHeld => ?_)
       clear hK K
       refine norm_ (a' := ?_) ?_ ?_
       rotate_left
       ·show Act.put _ (some 5) _ = _
        simp only [Act.put, qs1, qs2, qs3, i64_w, i32_w]
        rfl
       refine one_ (i := 13) (N := some 6) #[true, true, true, true, true, true, true, true, true, true, true, true, true, true, false, false] rfl rfl (one_of HT_.out (by kernel_rfl)) (by decide) (fun K hK => ?_)
       refine box_step ?hg (N := 6) ?hd (cs := #[.int .i64 0, .int .i64 0, .int .i64 0]) (t := 35) ?hr ?_; (case hd => rfl); (case hg => rfl); (case hr => first | (go_simp; done) | (go_simp; rfl))
       intro gb137 hg w12 hbox hb
       have n0_ := qam (blk_below (g := gb132) (o := .cells #[.slice (some ad134) l0_0.length c0_0, .slice A0_1 l0_1.length c0_1, .int .i64 a0_2] 25 (0, 0)) (by (with_reducible repeat (first | refine qb3 ?_ _ | refine qb5 ?_ | refine qb4 ?_ _)); exact BK132.out) hb)
       have n1_ := qam (blk_below (g := gb133) (o := .cells #[.int .i64 a1_0, .int .i64 a1_1, .int .i64 a1_2, .int .i64 a1_3] 32 (0, 0)) (by (with_reducible repeat (first | refine qb3 ?_ _ | refine qb5 ?_ | refine qb4 ?_ _)); exact BK133.out) hb)
       have n2_ := qam (blk_below (g := gb136) (o := .cells #[.int .i64 0, .int .i64 0, .int .i64 0] 35 (0, 0)) (by (with_reducible repeat (first | refine qb3 ?_ _ | refine qb5 ?_ | refine qb4 ?_ _)); exact BK136.out) hb)
       have n3_ := qam (qw6 (by repeat (first | (with_reducible first | exact HB.out | apply qw1 | apply qw2 | apply qw3 | refine qw4 ?_ GE132.out | refine qw4 ?_ GE133.out | refine qw4 ?_ GE136.out) | exact HB.out)) hb)
       have n4_ := qam (hbox)
       have n5_ := qam ((by rw [hg]; exact (qw5 (by repeat (first | (with_reducible first | exact HB.out | apply qw1 | apply qw2 | apply qw3 | refine qw4 ?_ GE132.out | refine qw4 ?_ GE133.out | refine qw4 ?_ GE136.out) | exact HB.out))) : w.heap.size ≤ gb137))
       have n6_ := qam ((by rw [hg]; exact (qw5 (by repeat (first | (with_reducible first | exact HB.out | apply qw1 | apply qw2 | apply qw3 | refine qw4 ?_ GE132.out | refine qw4 ?_ GE133.out | refine qw4 ?_ GE136.out) | exact HB.out))) : w.heap.size ≤ gb137))
       have n7_ := qam ((by rw [hg]; exact qnn (blk_lt (g := gb132) (o := .cells #[.slice (some ad134) l0_0.length c0_0, .slice A0_1 l0_1.length c0_1, .int .i64 a0_2] 25 (0, 0)) (by (with_reducible repeat (first | refine qb3 ?_ _ | refine qb5 ?_ | refine qb4 ?_ _)); exact BK132.out)) : gb132 ≠ gb137))
       have n8_ := qam ((by rw [hg]; exact Nat.ne_of_gt (blk_lt (g := gb132) (o := .cells #[.slice (some ad134) l0_0.length c0_0, .slice A0_1 l0_1.length c0_1, .int .i64 a0_2] 25 (0, 0)) (by (with_reducible repeat (first | refine qb3 ?_ _ | refine qb5 ?_ | refine qb4 ?_ _)); exact BK132.out)) : gb137 ≠ gb132))
       have n9_ := qam ((by rw [hg]; exact qnn (blk_lt (g := gb133) (o := .cells #[.int .i64 a1_0, .int .i64 a1_1, .int .i64 a1_2, .int .i64 a1_3] 32 (0, 0)) (by (with_reducible repeat (first | refine qb3 ?_ _ | refine qb5 ?_ | refine qb4 ?_ _)); exact BK133.out)) : gb133 ≠ gb137))
       have n10_ := qam ((by rw [hg]; exact Nat.ne_of_gt (blk_lt (g := gb133) (o := .cells #[.int .i64 a1_0, .int .i64 a1_1, .int .i64 a1_2, .int .i64 a1_3] 32 (0, 0)) (by (with_reducible repeat (first | refine qb3 ?_ _ | refine qb5 ?_ | refine qb4 ?_ _)); exact BK133.out)) : gb137 ≠ gb133))
       have n11_ := qam ((by rw [hg]; exact qnn (blk_lt (g := gb136) (o := .cells #[.int .i64 0, .int .i64 0, .int .i64 0] 35 (0, 0)) (by (with_reducible repeat (first | refine qb3 ?_ _ | refine qb5 ?_ | refine qb4 ?_ _)); exact BK136.out)) : gb136 ≠ gb137))
       have n12_ := qam ((by rw [hg]; exact Nat.ne_of_gt (blk_lt (g := gb136) (o := .cells #[.int .i64 0, .int .i64 0, .int .i64 0] 35 (0, 0)) (by (with_reducible repeat (first | refine qb3 ?_ _ | refine qb5 ?_ | refine qb4 ?_ _)); exact BK136.out)) : gb137 ≠ gb136))
       clear BK132
       clear BK133
       clear BK136
       clear HB
       have BK132 := n0_
       have BK133 := n1_
       have BK136 := n2_
       have HB := n3_
       have BK137 := n4_
       have GW137 := n5_
       have GE137 := n6_
       have NB132_137 := n7_
       have NB137_132 := n8_
       have NB133_137 := n9_
       have NB137_133 := n10_
       have NB136_137 := n11_
       have NB137_136 := n12_
       clear n0_ n1_ n2_ n3_ n4_ n5_ n6_ n7_ n8_ n9_ n10_ n11_ n12_
       clear hb hbox hg
       refine hK.out _ _ ⟨(qb1 BK132.out 0).trans rfl, (qb1 BK132.out 1).trans rfl, (qb1 BK132.out 2).trans rfl, (qb1 BK133.out 0).trans rfl, (qb1 BK133.out 1).trans rfl, (qb1 BK133.out 2).trans rfl, (qb1 BK133.out 3).trans rfl, ((HB.out.cell (qbl w _ hw134_0)).trans hw134_0), ((HB.out.cell (qbl w _ hw134_1)).trans hw134_1), ((HB.out.cell (qbl w _ hw134_2)).trans hw134_2), ((HB.out.cell (qbl w _ hw135_0)).trans hw135_0), ((HB.out.cell (qbl w _ hw135_1)).trans hw135_1), ((HB.out.cell (qbl w _ hw135_2)).trans hw135_2)⟩ (fun hHeld => ?_)
       clear hK K
       refine norm_ (a' := ?_) ?_ ?_
       rotate_left
       ·show Act.put _ (some 6) _ = _
        simp only [Act.put, qs1, qs2, qs3, i64_w, i32_w]
        rfl
       exact norm_ (by simp only [putAll, Act.put, qs1, qs2, qs3]) (hCont (gb136, gb137) _ ⟨hHeld, (by (with_reducible repeat (first | refine qb3 ?_ _ | refine qb5 ?_ | refine qb4 ?_ _)); exact BK132.out), (by (with_reducible repeat (first | refine qb3 ?_ _ | refine qb5 ?_ | refine qb4 ?_ _)); exact BK133.out), (by (with_reducible repeat (first | refine qb3 ?_ _ | refine qb5 ?_ | refine qb4 ?_ _)); exact BK136.out), (by (with_reducible repeat (first | refine qb3 ?_ _ | refine qb5 ?_ | refine qb4 ?_ _)); exact BK137.out), GW136.out, GE136.out, NB132_136.out, NB136_132.out, NB133_136.out, NB136_133.out, NB137_136.out, NB136_137.out, GW137.out, GE137.out, NB132_137.out, NB137_132.out, NB133_137.out, NB137_133.out, (by repeat (first | (with_reducible first | exact HB.out | apply qw1 | apply qw2 | apply qw3 | refine qw4 ?_ GE132.out | refine qw4 ?_ GE133.out | refine qw4 ?_ GE136.out | refine qw4 ?_ GE137.out) | exact HB.out))⟩)
      ·skip
       refine box_step ?hg (N := 6) ?hd (cs := #[.int .i64 0, .int .i64 0, .int .i64 0]) (t := 35) ?hr ?_; (case hd => rfl); (case hg => rfl); (case hr => first | (go_simp; done) | (go_simp; rfl))
       intro gb137 hg w11 hbox hb
       have n0_ := qam (blk_below (g := gb132) (o := .cells #[.slice (some ad134) l0_0.length c0_0, .slice A0_1 l0_1.length c0_1, .int .i64 a0_2] 25 (0, 0)) (by (with_reducible repeat (first | refine qb3 ?_ _ | refine qb5 ?_ | refine qb4 ?_ _)); exact BK132.out) hb)
       have n1_ := qam (blk_below (g := gb133) (o := .cells #[.int .i64 a1_0, .int .i64 a1_1, .int .i64 a1_2, .int .i64 a1_3] 32 (0, 0)) (by (with_reducible repeat (first | refine qb3 ?_ _ | refine qb5 ?_ | refine qb4 ?_ _)); exact BK133.out) hb)
       have n2_ := qam (qw6 (by repeat (first | (with_reducible first | exact HB.out | apply qw1 | apply qw2 | apply qw3 | refine qw4 ?_ GE132.out | refine qw4 ?_ GE133.out) | exact HB.out)) hb)
       have n3_ := qam (hbox)
       have n4_ := qam ((by rw [hg]; exact (qw5 (by repeat (first | (with_reducible first | exact HB.out | apply qw1 | apply qw2 | apply qw3 | refine qw4 ?_ GE132.out | refine qw4 ?_ GE133.out) | exact HB.out))) : w.heap.size ≤ gb137))
       have n5_ := qam ((by rw [hg]; exact (qw5 (by repeat (first | (with_reducible first | exact HB.out | apply qw1 | apply qw2 | apply qw3 | refine qw4 ?_ GE132.out | refine qw4 ?_ GE133.out) | exact HB.out))) : w.heap.size ≤ gb137))
       have n6_ := qam ((by rw [hg]; exact qnn (blk_lt (g := gb132) (o := .cells #[.slice (some ad134) l0_0.length c0_0, .slice A0_1 l0_1.length c0_1, .int .i64 a0_2] 25 (0, 0)) (by (with_reducible repeat (first | refine qb3 ?_ _ | refine qb5 ?_ | refine qb4 ?_ _)); exact BK132.out)) : gb132 ≠ gb137))
       have n7_ := qam ((by rw [hg]; exact Nat.ne_of_gt (blk_lt (g := gb132) (o := .cells #[.slice (some ad134) l0_0.length c0_0, .slice A0_1 l0_1.length c0_1, .int .i64 a0_2] 25 (0, 0)) (by (with_reducible repeat (first | refine qb3 ?_ _ | refine qb5 ?_ | refine qb4 ?_ _)); exact BK132.out)) : gb137 ≠ gb132))
       have n8_ := qam ((by rw [hg]; exact qnn (blk_lt (g := gb133) (o := .cells #[.int .i64 a1_0, .int .i64 a1_1, .int .i64 a1_2, .int .i64 a1_3] 32 (0, 0)) (by (with_reducible repeat (first | refine qb3 ?_ _ | refine qb5 ?_ | refine qb4 ?_ _)); exact BK133.out)) : gb133 ≠ gb137))
       have n9_ := qam ((by rw [hg]; exact Nat.ne_of_gt (blk_lt (g := gb133) (o := .cells #[.int .i64 a1_0, .int .i64 a1_1, .int .i64 a1_2, .int .i64 a1_3] 32 (0, 0)) (by (with_reducible repeat (first | refine qb3 ?_ _ | refine qb5 ?_ | refine qb4 ?_ _)); exact BK133.out)) : gb137 ≠ gb133))
       clear BK132
       clear BK133
       clear HB
       have BK132 := n0_
       have BK133 := n1_
       have HB := n2_
       have BK137 := n3_
       have GW137 := n4_
       have GE137 := n5_
       have NB132_137 := n6_
       have NB137_132 := n7_
       have NB133_137 := n8_
       have NB137_133 := n9_
       clear n0_ n1_ n2_ n3_ n4_ n5_ n6_ n7_ n8_ n9_
       clear hb hbox hg
       refine hK.out _ _ ⟨(qb1 BK132.out 0).trans rfl, (qb1 BK132.out 1).trans rfl, (qb1 BK132.out 2).trans rfl, (qb1 BK133.out 0).trans rfl, (qb1 BK133.out 1).trans rfl, (qb1 BK133.out 2).trans rfl, (qb1 BK133.out 3).trans rfl, ((HB.out.cell (qbl w _ hw134_0)).trans hw134_0), ((HB.out.cell (qbl w _ hw134_1)).trans hw134_1), ((HB.out.cell (qbl w _ hw134_2)).trans hw134_2), ((HB.out.cell (qbl w _ hw135_0)).trans hw135_0), ((HB.out.cell (qbl w _ hw135_1)).trans hw135_1), ((HB.out.cell (qbl w _ hw135_2)).trans hw135_2)⟩ (fun hHeld => ?_)
       clear hK K
       refine norm_ (a' := ?_) ?_ ?_
       rotate_left
       ·show Act.put _ (some 6) _ = _
        simp only [Act.put, qs1, qs2, qs3, i64_w, i32_w]
        rfl
       refine one_ (i := 12) (N := some 5) #[true, true, true, true, true, true, true, true, true, true, true, true, true, true, false, false] rfl rfl (one_of HT_.out (by kernel_rfl)) (by decide) (fun K hK => ?_)
       refine box_step ?hg (N := 5) ?hd (cs := #[.int .i64 0, .int .i64 0, .int .i64 0]) (t := 35) ?hr ?_; (case hd => rfl); (case hg => rfl); (case hr => first | (go_simp; done) | (go_simp; rfl))
       intro gb136 hg w12 hbox hb
       have n0_ := qam (blk_below (g := gb132) (o := .cells #[.slice (some ad134) l0_0.length c0_0, .slice A0_1 l0_1.length c0_1, .int .i64 a0_2] 25 (0, 0)) (by (with_reducible repeat (first | refine qb3 ?_ _ | refine qb5 ?_ | refine qb4 ?_ _)); exact BK132.out) hb)
       have n1_ := qam (blk_below (g := gb133) (o := .cells #[.int .i64 a1_0, .int .i64 a1_1, .int .i64 a1_2, .int .i64 a1_3] 32 (0, 0)) (by (with_reducible repeat (first | refine qb3 ?_ _ | refine qb5 ?_ | refine qb4 ?_ _)); exact BK133.out) hb)
       have n2_ := qam (blk_below (g := gb137) (o := .cells #[.int .i64 0, .int .i64 0, .int .i64 0] 35 (0, 0)) (by (with_reducible repeat (first | refine qb3 ?_ _ | refine qb5 ?_ | refine qb4 ?_ _)); exact BK137.out) hb)
       have n3_ := qam (qw6 (by repeat (first | (with_reducible first | exact HB.out | apply qw1 | apply qw2 | apply qw3 | refine qw4 ?_ GE132.out | refine qw4 ?_ GE133.out | refine qw4 ?_ GE137.out) | exact HB.out)) hb)
       have n4_ := qam (hbox)
       have n5_ := qam ((by rw [hg]; exact (qw5 (by repeat (first | (with_reducible first | exact HB.out | apply qw1 | apply qw2 | apply qw3 | refine qw4 ?_ GE132.out | refine qw4 ?_ GE133.out | refine qw4 ?_ GE137.out) | exact HB.out))) : w.heap.size ≤ gb136))
       have n6_ := qam ((by rw [hg]; exact (qw5 (by repeat (first | (with_reducible first | exact HB.out | apply qw1 | apply qw2 | apply qw3 | refine qw4 ?_ GE132.out | refine qw4 ?_ GE133.out | refine qw4 ?_ GE137.out) | exact HB.out))) : w.heap.size ≤ gb136))
       have n7_ := qam ((by rw [hg]; exact qnn (blk_lt (g := gb132) (o := .cells #[.slice (some ad134) l0_0.length c0_0, .slice A0_1 l0_1.length c0_1, .int .i64 a0_2] 25 (0, 0)) (by (with_reducible repeat (first | refine qb3 ?_ _ | refine qb5 ?_ | refine qb4 ?_ _)); exact BK132.out)) : gb132 ≠ gb136))
       have n8_ := qam ((by rw [hg]; exact Nat.ne_of_gt (blk_lt (g := gb132) (o := .cells #[.slice (some ad134) l0_0.length c0_0, .slice A0_1 l0_1.length c0_1, .int .i64 a0_2] 25 (0, 0)) (by (with_reducible repeat (first | refine qb3 ?_ _ | refine qb5 ?_ | refine qb4 ?_ _)); exact BK132.out)) : gb136 ≠ gb132))
       have n9_ := qam ((by rw [hg]; exact qnn (blk_lt (g := gb133) (o := .cells #[.int .i64 a1_0, .int .i64 a1_1, .int .i64 a1_2, .int .i64 a1_3] 32 (0, 0)) (by (with_reducible repeat (first | refine qb3 ?_ _ | refine qb5 ?_ | refine qb4 ?_ _)); exact BK133.out)) : gb133 ≠ gb136))
       have n10_ := qam ((by rw [hg]; exact Nat.ne_of_gt (blk_lt (g := gb133) (o := .cells #[.int .i64 a1_0, .int .i64 a1_1, .int .i64 a1_2, .int .i64 a1_3] 32 (0, 0)) (by (with_reducible repeat (first | refine qb3 ?_ _ | refine qb5 ?_ | refine qb4 ?_ _)); exact BK133.out)) : gb136 ≠ gb133))
       have n11_ := qam ((by rw [hg]; exact qnn (blk_lt (g := gb137) (o := .cells #[.int .i64 0, .int .i64 0, .int .i64 0] 35 (0, 0)) (by (with_reducible repeat (first | refine qb3 ?_ _ | refine qb5 ?_ | refine qb4 ?_ _)); exact BK137.out)) : gb137 ≠ gb136))
       have n12_ := qam ((by rw [hg]; exact Nat.ne_of_gt (blk_lt (g := gb137) (o := .cells #[.int .i64 0, .int .i64 0, .int .i64 0] 35 (0, 0)) (by (with_reducible repeat (first | refine qb3 ?_ _ | refine qb5 ?_ | refine qb4 ?_ _)); exact BK137.out)) : gb136 ≠ gb137))
       clear BK132
       clear BK133
       clear BK137
       clear HB
       have BK132 := n0_
       have BK133 := n1_
       have BK137 := n2_
       have HB := n3_
       have BK136 := n4_
       have GW136 := n5_
       have GE136 := n6_
       have NB132_136 := n7_
       have NB136_132 := n8_
       have NB133_136 := n9_
       have NB136_133 := n10_
       have NB137_136 := n11_
       have NB136_137 := n12_
       clear n0_ n1_ n2_ n3_ n4_ n5_ n6_ n7_ n8_ n9_ n10_ n11_ n12_
       clear hb hbox hg
       refine hK.out _ _ ⟨(qb1 BK132.out 0).trans rfl, (qb1 BK132.out 1).trans rfl, (qb1 BK132.out 2).trans rfl, (qb1 BK133.out 0).trans rfl, (qb1 BK133.out 1).trans rfl, (qb1 BK133.out 2).trans rfl, (qb1 BK133.out 3).trans rfl, ((HB.out.cell (qbl w _ hw134_0)).trans hw134_0), ((HB.out.cell (qbl w _ hw134_1)).trans hw134_1), ((HB.out.cell (qbl w _ hw134_2)).trans hw134_2), ((HB.out.cell (qbl w _ hw135_0)).trans hw135_0), ((HB.out.cell (qbl w _ hw135_1)).trans hw135_1), ((HB.out.cell (qbl w _ hw135_2)).trans hw135_2)⟩ (fun hHeld => ?_)
       clear hK K
       refine norm_ (a' := ?_) ?_ ?_
       rotate_left
       ·show Act.put _ (some 5) _ = _
        simp only [Act.put, qs1, qs2, qs3, i64_w, i32_w]
        rfl
       exact norm_ (by simp only [putAll, Act.put, qs1, qs2, qs3]) (hCont (gb136, gb137) _ ⟨hHeld, (by (with_reducible repeat (first | refine qb3 ?_ _ | refine qb5 ?_ | refine qb4 ?_ _)); exact BK132.out), (by (with_reducible repeat (first | refine qb3 ?_ _ | refine qb5 ?_ | refine qb4 ?_ _)); exact BK133.out), (by (with_reducible repeat (first | refine qb3 ?_ _ | refine qb5 ?_ | refine qb4 ?_ _)); exact BK136.out), (by (with_reducible repeat (first | refine qb3 ?_ _ | refine qb5 ?_ | refine qb4 ?_ _)); exact BK137.out), GW136.out, GE136.out, NB132_136.out, NB136_132.out, NB133_136.out, NB136_133.out, NB137_136.out, NB136_137.out, GW137.out, GE137.out, NB132_137.out, NB137_132.out, NB133_137.out, NB137_133.out, (by repeat (first | (with_reducible first | exact HB.out | apply qw1 | apply qw2 | apply qw3 | refine qw4 ?_ GE132.out | refine qw4 ?_ GE133.out | refine qw4 ?_ GE137.out | refine qw4 ?_ GE136.out) | exact HB.out))⟩)
     rintro ⟨gb136, gb137⟩ w13 ⟨hS_, h0_, h1_, h2_, h3_, h4_, h5_, h6_, h7_, h8_, h9_, h10_, h11_, h12_, h13_, h14_, h15_, h16_, h17_, h18_⟩
     have n0_ : Aside0 (w13.heap[gb132]? = some (.cells #[.slice (some ad134) l0_0.length c0_0, .slice A0_1 l0_1.length c0_1, .int .i64 a0_2] 25 (0, 0))) := ⟨h0_⟩
     have n1_ : Aside0 (w13.heap[gb133]? = some (.cells #[.int .i64 a1_0, .int .i64 a1_1, .int .i64 a1_2, .int .i64 a1_3] 32 (0, 0))) := ⟨h1_⟩
     have n2_ : Aside0 (w13.heap[gb136]? = some (.cells #[.int .i64 0, .int .i64 0, .int .i64 0] 35 (0, 0))) := ⟨h2_⟩
     have n3_ : Aside0 (w13.heap[gb137]? = some (.cells #[.int .i64 0, .int .i64 0, .int .i64 0] 35 (0, 0))) := ⟨h3_⟩
     have n4_ : Aside0 (w.heap.size ≤ gb136) := ⟨h4_⟩
     have n5_ : Aside0 (w.heap.size ≤ gb136) := ⟨h5_⟩
     have n6_ : Aside0 (gb132 ≠ gb136) := ⟨h6_⟩
     have n7_ : Aside0 (gb136 ≠ gb132) := ⟨h7_⟩
     have n8_ : Aside0 (gb133 ≠ gb136) := ⟨h8_⟩
     have n9_ : Aside0 (gb136 ≠ gb133) := ⟨h9_⟩
     have n10_ : Aside0 (gb137 ≠ gb136) := ⟨h10_⟩
     have n11_ : Aside0 (gb136 ≠ gb137) := ⟨h11_⟩
     have n12_ : Aside0 (w.heap.size ≤ gb137) := ⟨h12_⟩
     have n13_ : Aside0 (w.heap.size ≤ gb137) := ⟨h13_⟩
     have n14_ : Aside0 (gb132 ≠ gb137) := ⟨h14_⟩
     have n15_ : Aside0 (gb137 ≠ gb132) := ⟨h15_⟩
     have n16_ : Aside0 (gb133 ≠ gb137) := ⟨h16_⟩
     have n17_ : Aside0 (gb137 ≠ gb133) := ⟨h17_⟩
     have n18_ : Aside0 (Below w.heap.size w w13) := ⟨h18_⟩
     clear BK132
     clear BK133
     clear HB
     clear h0_ h1_ h2_ h3_ h4_ h5_ h6_ h7_ h8_ h9_ h10_ h11_ h12_ h13_ h14_ h15_ h16_ h17_ h18_
     have BK132 := n0_
     have BK133 := n1_
     have BK136 := n2_
     have BK137 := n3_
     have GW136 := n4_
     have GE136 := n5_
     have NB132_136 := n6_
     have NB136_132 := n7_
     have NB133_136 := n8_
     have NB136_133 := n9_
     have NB137_136 := n10_
     have NB136_137 := n11_
     have GW137 := n12_
     have GE137 := n13_
     have NB132_137 := n14_
     have NB137_132 := n15_
     have NB133_137 := n16_
     have NB137_133 := n17_
     have HB := n18_
     clear n0_ n1_ n2_ n3_ n4_ n5_ n6_ n7_ n8_ n9_ n10_ n11_ n12_ n13_ n14_ n15_ n16_ n17_ n18_
     have hHeld : w13.cell? ⟨gb132, 0, none⟩ = some (.slice (some ad134) l0_0.length c0_0) ∧ w13.cell? ⟨gb132, 1, none⟩ = some (.slice A0_1 l0_1.length c0_1) ∧ w13.cell? ⟨gb132, 2, none⟩ = some (.int .i64 a0_2) ∧ w13.cell? ⟨gb133, 0, none⟩ = some (.int .i64 a1_0) ∧ w13.cell? ⟨gb133, 1, none⟩ = some (.int .i64 a1_1) ∧ w13.cell? ⟨gb133, 2, none⟩ = some (.int .i64 a1_2) ∧ w13.cell? ⟨gb133, 3, none⟩ = some (.int .i64 a1_3) ∧ w13.cell? (ad134.add ((a1_0).toNat * 3)) = some (.int .i64 ((rd_T35 l0_0 a1_0).f0)) ∧ w13.cell? ⟨(ad134.add ((a1_0).toNat * 3)).block, (ad134.add ((a1_0).toNat * 3)).off + 1, none⟩ = some (.int .i64 ((rd_T35 l0_0 a1_0).f1)) ∧ w13.cell? ⟨(ad134.add ((a1_0).toNat * 3)).block, (ad134.add ((a1_0).toNat * 3)).off + 2, none⟩ = some (.int .i64 ((rd_T35 l0_0 a1_0).f2)) ∧ w13.cell? (ad134.add ((a1_1).toNat * 3)) = some (.int .i64 ((rd_T35 l0_0 a1_1).f0)) ∧ w13.cell? ⟨(ad134.add ((a1_1).toNat * 3)).block, (ad134.add ((a1_1).toNat * 3)).off + 1, none⟩ = some (.int .i64 ((rd_T35 l0_0 a1_1).f1)) ∧ w13.cell? ⟨(ad134.add ((a1_1).toNat * 3)).block, (ad134.add ((a1_1).toNat * 3)).off + 2, none⟩ = some (.int .i64 ((rd_T35 l0_0 a1_1).f2)) := hS_
     refine norm_ (a' := ?_) ?_ ?_
     rotate_left
     ·simp only [putAll, Act.put, qs1, qs2, qs3]
      rfl
     refine one_ (i := 14) (N := none) #[true, true, true, true, true, true, true, true, true, true, true, true, true, true, true, false] rfl rfl (one_of HT_.out (by kernel_rfl)) (by decide) (fun K hK => ?_)
     have hs14 : w13.cell? ⟨gb136, 0, none⟩ = some (.int .i64 0) := (qb1 BK136.out 0).trans rfl
     have hfs14 := qb2 BK136.out 0
     have hns14_0 := NB132_136.out
     have hns14_1 := NB133_136.out
     have hns14_3 := NB137_136.out
     have hms14_0 := NB136_132.out
     have hms14_1 := NB136_133.out
     have hms14_3 := NB136_137.out
     have hs15 : w13.cell? ⟨gb136, 1, none⟩ = some (.int .i64 0) := (qb1 BK136.out 1).trans rfl
     have hfs15 := qb2 BK136.out 1
     have hns15_0 := NB132_136.out
     have hns15_1 := NB133_136.out
     have hns15_3 := NB137_136.out
     have hms15_0 := NB136_132.out
     have hms15_1 := NB136_133.out
     have hms15_3 := NB136_137.out
     have hs16 : w13.cell? ⟨gb136, 2, none⟩ = some (.int .i64 0) := (qb1 BK136.out 2).trans rfl
     have hfs16 := qb2 BK136.out 2
     have hns16_0 := NB132_136.out
     have hns16_1 := NB133_136.out
     have hns16_3 := NB137_136.out
     have hms16_0 := NB136_132.out
     have hms16_1 := NB136_133.out
     have hms16_3 := NB136_137.out
     refine skip_ (w1 := ?_) (by rfl) rfl ?_ ?_
     rotate_left
     ·go_simp
      rfl
     refine hK.out _ _ ⟨((cell_far (p := ⟨gb136, _, none⟩) NB132_136.out _).trans (((cell_far (p := ⟨gb136, _, none⟩) NB132_136.out _).trans (((cell_far (p := ⟨gb136, _, none⟩) NB132_136.out _).trans (hHeld.1)))))), ((cell_far (p := ⟨gb136, _, none⟩) NB132_136.out _).trans (((cell_far (p := ⟨gb136, _, none⟩) NB132_136.out _).trans (((cell_far (p := ⟨gb136, _, none⟩) NB132_136.out _).trans (hHeld.2.1)))))), ((cell_far (p := ⟨gb136, _, none⟩) NB132_136.out _).trans (((cell_far (p := ⟨gb136, _, none⟩) NB132_136.out _).trans (((cell_far (p := ⟨gb136, _, none⟩) NB132_136.out _).trans (hHeld.2.2.1)))))), ((cell_far (p := ⟨gb136, _, none⟩) NB133_136.out _).trans (((cell_far (p := ⟨gb136, _, none⟩) NB133_136.out _).trans (((cell_far (p := ⟨gb136, _, none⟩) NB133_136.out _).trans (hHeld.2.2.2.1)))))), ((cell_far (p := ⟨gb136, _, none⟩) NB133_136.out _).trans (((cell_far (p := ⟨gb136, _, none⟩) NB133_136.out _).trans (((cell_far (p := ⟨gb136, _, none⟩) NB133_136.out _).trans (hHeld.2.2.2.2.1)))))), ((cell_far (p := ⟨gb136, _, none⟩) NB133_136.out _).trans (((cell_far (p := ⟨gb136, _, none⟩) NB133_136.out _).trans (((cell_far (p := ⟨gb136, _, none⟩) NB133_136.out _).trans (hHeld.2.2.2.2.2.1)))))), ((cell_far (p := ⟨gb136, _, none⟩) NB133_136.out _).trans (((cell_far (p := ⟨gb136, _, none⟩) NB133_136.out _).trans (((cell_far (p := ⟨gb136, _, none⟩) NB133_136.out _).trans (hHeld.2.2.2.2.2.2.1)))))), ((cell_far (p := ⟨gb136, _, none⟩) (by first | exact qnn (qnl (by have := qbl _ _ hw134_0; first | rwa [add_block] at this | exact this) GW136.out) | (rw [add_block]; exact qnn (qnl (by have := qbl _ _ hw134_0; first | rwa [add_block] at this | exact this) GW136.out)) | (show (Addr.add _ _).block ≠ _; rw [add_block]; exact qnn (qnl (by have := qbl _ _ hw134_0; first | rwa [add_block] at this | exact this) GW136.out)) | (dsimp only; exact qnn (qnl (by have := qbl _ _ hw134_0; first | rwa [add_block] at this | exact this) GW136.out))) _).trans (((cell_far (p := ⟨gb136, _, none⟩) (by first | exact qnn (qnl (by have := qbl _ _ hw134_0; first | rwa [add_block] at this | exact this) GW136.out) | (rw [add_block]; exact qnn (qnl (by have := qbl _ _ hw134_0; first | rwa [add_block] at this | exact this) GW136.out)) | (show (Addr.add _ _).block ≠ _; rw [add_block]; exact qnn (qnl (by have := qbl _ _ hw134_0; first | rwa [add_block] at this | exact this) GW136.out)) | (dsimp only; exact qnn (qnl (by have := qbl _ _ hw134_0; first | rwa [add_block] at this | exact this) GW136.out))) _).trans (((cell_far (p := ⟨gb136, _, none⟩) (by first | exact qnn (qnl (by have := qbl _ _ hw134_0; first | rwa [add_block] at this | exact this) GW136.out) | (rw [add_block]; exact qnn (qnl (by have := qbl _ _ hw134_0; first | rwa [add_block] at this | exact this) GW136.out)) | (show (Addr.add _ _).block ≠ _; rw [add_block]; exact qnn (qnl (by have := qbl _ _ hw134_0; first | rwa [add_block] at this | exact this) GW136.out)) | (dsimp only; exact qnn (qnl (by have := qbl _ _ hw134_0; first | rwa [add_block] at this | exact this) GW136.out))) _).trans (hHeld.2.2.2.2.2.2.2.1)))))), ((cell_far (p := ⟨gb136, _, none⟩) (by first | exact qnn (qnl (by have := qbl _ _ hw134_1; first | rwa [add_block] at this | exact this) GW136.out) | (rw [add_block]; exact qnn (qnl (by have := qbl _ _ hw134_1; first | rwa [add_block] at this | exact this) GW136.out)) | (show (Addr.add _ _).block ≠ _; rw [add_block]; exact qnn (qnl (by have := qbl _ _ hw134_1; first | rwa [add_block] at this | exact this) GW136.out)) | (dsimp only; exact qnn (qnl (by have := qbl _ _ hw134_1; first | rwa [add_block] at this | exact this) GW136.out))) _).trans (((cell_far (p := ⟨gb136, _, none⟩) (by first | exact qnn (qnl (by have := qbl _ _ hw134_1; first | rwa [add_block] at this | exact this) GW136.out) | (rw [add_block]; exact qnn (qnl (by have := qbl _ _ hw134_1; first | rwa [add_block] at this | exact this) GW136.out)) | (show (Addr.add _ _).block ≠ _; rw [add_block]; exact qnn (qnl (by have := qbl _ _ hw134_1; first | rwa [add_block] at this | exact this) GW136.out)) | (dsimp only; exact qnn (qnl (by have := qbl _ _ hw134_1; first | rwa [add_block] at this | exact this) GW136.out))) _).trans (((cell_far (p := ⟨gb136, _, none⟩) (by first | exact qnn (qnl (by have := qbl _ _ hw134_1; first | rwa [add_block] at this | exact this) GW136.out) | (rw [add_block]; exact qnn (qnl (by have := qbl _ _ hw134_1; first | rwa [add_block] at this | exact this) GW136.out)) | (show (Addr.add _ _).block ≠ _; rw [add_block]; exact qnn (qnl (by have := qbl _ _ hw134_1; first | rwa [add_block] at this | exact this) GW136.out)) | (dsimp only; exact qnn (qnl (by have := qbl _ _ hw134_1; first | rwa [add_block] at this | exact this) GW136.out))) _).trans (hHeld.2.2.2.2.2.2.2.2.1)))))), ((cell_far (p := ⟨gb136, _, none⟩) (by first | exact qnn (qnl (by have := qbl _ _ hw134_2; first | rwa [add_block] at this | exact this) GW136.out) | (rw [add_block]; exact qnn (qnl (by have := qbl _ _ hw134_2; first | rwa [add_block] at this | exact this) GW136.out)) | (show (Addr.add _ _).block ≠ _; rw [add_block]; exact qnn (qnl (by have := qbl _ _ hw134_2; first | rwa [add_block] at this | exact this) GW136.out)) | (dsimp only; exact qnn (qnl (by have := qbl _ _ hw134_2; first | rwa [add_block] at this | exact this) GW136.out))) _).trans (((cell_far (p := ⟨gb136, _, none⟩) (by first | exact qnn (qnl (by have := qbl _ _ hw134_2; first | rwa [add_block] at this | exact this) GW136.out) | (rw [add_block]; exact qnn (qnl (by have := qbl _ _ hw134_2; first | rwa [add_block] at this | exact this) GW136.out)) | (show (Addr.add _ _).block ≠ _; rw [add_block]; exact qnn (qnl (by have := qbl _ _ hw134_2; first | rwa [add_block] at this | exact this) GW136.out)) | (dsimp only; exact qnn (qnl (by have := qbl _ _ hw134_2; first | rwa [add_block] at this | exact this) GW136.out))) _).trans (((cell_far (p := ⟨gb136, _, none⟩) (by first | exact qnn (qnl (by have := qbl _ _ hw134_2; first | rwa [add_block] at this | exact this) GW136.out) | (rw [add_block]; exact qnn (qnl (by have := qbl _ _ hw134_2; first | rwa [add_block] at this | exact this) GW136.out)) | (show (Addr.add _ _).block ≠ _; rw [add_block]; exact qnn (qnl (by have := qbl _ _ hw134_2; first | rwa [add_block] at this | exact this) GW136.out)) | (dsimp only; exact qnn (qnl (by have := qbl _ _ hw134_2; first | rwa [add_block] at this | exact this) GW136.out))) _).trans (hHeld.2.2.2.2.2.2.2.2.2.1)))))), ((cell_far (p := ⟨gb136, _, none⟩) (by first | exact qnn (qnl (by have := qbl _ _ hw135_0; first | rwa [add_block] at this | exact this) GW136.out) | (rw [add_block]; exact qnn (qnl (by have := qbl _ _ hw135_0; first | rwa [add_block] at this | exact this) GW136.out)) | (show (Addr.add _ _).block ≠ _; rw [add_block]; exact qnn (qnl (by have := qbl _ _ hw135_0; first | rwa [add_block] at this | exact this) GW136.out)) | (dsimp only; exact qnn (qnl (by have := qbl _ _ hw135_0; first | rwa [add_block] at this | exact this) GW136.out))) _).trans (((cell_far (p := ⟨gb136, _, none⟩) (by first | exact qnn (qnl (by have := qbl _ _ hw135_0; first | rwa [add_block] at this | exact this) GW136.out) | (rw [add_block]; exact qnn (qnl (by have := qbl _ _ hw135_0; first | rwa [add_block] at this | exact this) GW136.out)) | (show (Addr.add _ _).block ≠ _; rw [add_block]; exact qnn (qnl (by have := qbl _ _ hw135_0; first | rwa [add_block] at this | exact this) GW136.out)) | (dsimp only; exact qnn (qnl (by have := qbl _ _ hw135_0; first | rwa [add_block] at this | exact this) GW136.out))) _).trans (((cell_far (p := ⟨gb136, _, none⟩) (by first | exact qnn (qnl (by have := qbl _ _ hw135_0; first | rwa [add_block] at this | exact this) GW136.out) | (rw [add_block]; exact qnn (qnl (by have := qbl _ _ hw135_0; first | rwa [add_block] at this | exact this) GW136.out)) | (show (Addr.add _ _).block ≠ _; rw [add_block]; exact qnn (qnl (by have := qbl _ _ hw135_0; first | rwa [add_block] at this | exact this) GW136.out)) | (dsimp only; exact qnn (qnl (by have := qbl _ _ hw135_0; first | rwa [add_block] at this | exact this) GW136.out))) _).trans (hHeld.2.2.2.2.2.2.2.2.2.2.1)))))), ((cell_far (p := ⟨gb136, _, none⟩) (by first | exact qnn (qnl (by have := qbl _ _ hw135_1; first | rwa [add_block] at this | exact this) GW136.out) | (rw [add_block]; exact qnn (qnl (by have := qbl _ _ hw135_1; first | rwa [add_block] at this | exact this) GW136.out)) | (show (Addr.add _ _).block ≠ _; rw [add_block]; exact qnn (qnl (by have := qbl _ _ hw135_1; first | rwa [add_block] at this | exact this) GW136.out)) | (dsimp only; exact qnn (qnl (by have := qbl _ _ hw135_1; first | rwa [add_block] at this | exact this) GW136.out))) _).trans (((cell_far (p := ⟨gb136, _, none⟩) (by first | exact qnn (qnl (by have := qbl _ _ hw135_1; first | rwa [add_block] at this | exact this) GW136.out) | (rw [add_block]; exact qnn (qnl (by have := qbl _ _ hw135_1; first | rwa [add_block] at this | exact this) GW136.out)) | (show (Addr.add _ _).block ≠ _; rw [add_block]; exact qnn (qnl (by have := qbl _ _ hw135_1; first | rwa [add_block] at this | exact this) GW136.out)) | (dsimp only; exact qnn (qnl (by have := qbl _ _ hw135_1; first | rwa [add_block] at this | exact this) GW136.out))) _).trans (((cell_far (p := ⟨gb136, _, none⟩) (by first | exact qnn (qnl (by have := qbl _ _ hw135_1; first | rwa [add_block] at this | exact this) GW136.out) | (rw [add_block]; exact qnn (qnl (by have := qbl _ _ hw135_1; first | rwa [add_block] at this | exact this) GW136.out)) | (show (Addr.add _ _).block ≠ _; rw [add_block]; exact qnn (qnl (by have := qbl _ _ hw135_1; first | rwa [add_block] at this | exact this) GW136.out)) | (dsimp only; exact qnn (qnl (by have := qbl _ _ hw135_1; first | rwa [add_block] at this | exact this) GW136.out))) _).trans (hHeld.2.2.2.2.2.2.2.2.2.2.2.1)))))), ((cell_far (p := ⟨gb136, _, none⟩) (by first | exact qnn (qnl (by have := qbl _ _ hw135_2; first | rwa [add_block] at this | exact this) GW136.out) | (rw [add_block]; exact qnn (qnl (by have := qbl _ _ hw135_2; first | rwa [add_block] at this | exact this) GW136.out)) | (show (Addr.add _ _).block ≠ _; rw [add_block]; exact qnn (qnl (by have := qbl _ _ hw135_2; first | rwa [add_block] at this | exact this) GW136.out)) | (dsimp only; exact qnn (qnl (by have := qbl _ _ hw135_2; first | rwa [add_block] at this | exact this) GW136.out))) _).trans (((cell_far (p := ⟨gb136, _, none⟩) (by first | exact qnn (qnl (by have := qbl _ _ hw135_2; first | rwa [add_block] at this | exact this) GW136.out) | (rw [add_block]; exact qnn (qnl (by have := qbl _ _ hw135_2; first | rwa [add_block] at this | exact this) GW136.out)) | (show (Addr.add _ _).block ≠ _; rw [add_block]; exact qnn (qnl (by have := qbl _ _ hw135_2; first | rwa [add_block] at this | exact this) GW136.out)) | (dsimp only; exact qnn (qnl (by have := qbl _ _ hw135_2; first | rwa [add_block] at this | exact this) GW136.out))) _).trans (((cell_far (p := ⟨gb136, _, none⟩) (by first | exact qnn (qnl (by have := qbl _ _ hw135_2; first | rwa [add_block] at this | exact this) GW136.out) | (rw [add_block]; exact qnn (qnl (by have := qbl _ _ hw135_2; first | rwa [add_block] at this | exact this) GW136.out)) | (show (Addr.add _ _).block ≠ _; rw [add_block]; exact qnn (qnl (by have := qbl _ _ hw135_2; first | rwa [add_block] at this | exact this) GW136.out)) | (dsimp only; exact qnn (qnl (by have := qbl _ _ hw135_2; first | rwa [add_block] at this | exact this) GW136.out))) _).trans (hHeld.2.2.2.2.2.2.2.2.2.2.2.2))))))⟩ (fun hHeld => ?_)
     clear hK K
     refine one_ (i := 15) (N := none) #[true, true, true, true, true, true, true, true, true, true, true, true, true, true, true, true] rfl rfl (one_of HT_.out (by kernel_rfl)) (by decide) (fun K hK => ?_)
     have hs17 : w13.cell? ⟨gb137, 0, none⟩ = some (.int .i64 0) := (qb1 BK137.out 0).trans rfl
     have hfs17 := qb2 BK137.out 0
     have hns17_0 := NB132_137.out
     have hns17_1 := NB133_137.out
     have hns17_2 := NB136_137.out
     have hms17_0 := NB137_132.out
     have hms17_1 := NB137_133.out
     have hms17_2 := NB137_136.out
     have hs18 : w13.cell? ⟨gb137, 1, none⟩ = some (.int .i64 0) := (qb1 BK137.out 1).trans rfl
     have hfs18 := qb2 BK137.out 1
     have hns18_0 := NB132_137.out
     have hns18_1 := NB133_137.out
     have hns18_2 := NB136_137.out
     have hms18_0 := NB137_132.out
     have hms18_1 := NB137_133.out
     have hms18_2 := NB137_136.out
     have hs19 : w13.cell? ⟨gb137, 2, none⟩ = some (.int .i64 0) := (qb1 BK137.out 2).trans rfl
     have hfs19 := qb2 BK137.out 2
     have hns19_0 := NB132_137.out
     have hns19_1 := NB133_137.out
     have hns19_2 := NB136_137.out
     have hms19_0 := NB137_132.out
     have hms19_1 := NB137_133.out
     have hms19_2 := NB137_136.out
     refine skip_ (w1 := ?_) (by rfl) rfl ?_ ?_
     rotate_left
     ·go_simp
      rfl
     refine hK.out _ _ ⟨((cell_far (p := ⟨gb137, _, none⟩) NB132_137.out _).trans (((cell_far (p := ⟨gb137, _, none⟩) NB132_137.out _).trans (((cell_far (p := ⟨gb137, _, none⟩) NB132_137.out _).trans (hHeld.1)))))), ((cell_far (p := ⟨gb137, _, none⟩) NB132_137.out _).trans (((cell_far (p := ⟨gb137, _, none⟩) NB132_137.out _).trans (((cell_far (p := ⟨gb137, _, none⟩) NB132_137.out _).trans (hHeld.2.1)))))), ((cell_far (p := ⟨gb137, _, none⟩) NB132_137.out _).trans (((cell_far (p := ⟨gb137, _, none⟩) NB132_137.out _).trans (((cell_far (p := ⟨gb137, _, none⟩) NB132_137.out _).trans (hHeld.2.2.1)))))), ((cell_far (p := ⟨gb137, _, none⟩) NB133_137.out _).trans (((cell_far (p := ⟨gb137, _, none⟩) NB133_137.out _).trans (((cell_far (p := ⟨gb137, _, none⟩) NB133_137.out _).trans (hHeld.2.2.2.1)))))), ((cell_far (p := ⟨gb137, _, none⟩) NB133_137.out _).trans (((cell_far (p := ⟨gb137, _, none⟩) NB133_137.out _).trans (((cell_far (p := ⟨gb137, _, none⟩) NB133_137.out _).trans (hHeld.2.2.2.2.1)))))), ((cell_far (p := ⟨gb137, _, none⟩) NB133_137.out _).trans (((cell_far (p := ⟨gb137, _, none⟩) NB133_137.out _).trans (((cell_far (p := ⟨gb137, _, none⟩) NB133_137.out _).trans (hHeld.2.2.2.2.2.1)))))), ((cell_far (p := ⟨gb137, _, none⟩) NB133_137.out _).trans (((cell_far (p := ⟨gb137, _, none⟩) NB133_137.out _).trans (((cell_far (p := ⟨gb137, _, none⟩) NB133_137.out _).trans (hHeld.2.2.2.2.2.2.1)))))), ((cell_far (p := ⟨gb137, _, none⟩) (by first | exact qnn (qnl (by have := qbl _ _ hw134_0; first | rwa [add_block] at this | exact this) GW137.out) | (rw [add_block]; exact qnn (qnl (by have := qbl _ _ hw134_0; first | rwa [add_block] at this | exact this) GW137.out)) | (show (Addr.add _ _).block ≠ _; rw [add_block]; exact qnn (qnl (by have := qbl _ _ hw134_0; first | rwa [add_block] at this | exact this) GW137.out)) | (dsimp only; exact qnn (qnl (by have := qbl _ _ hw134_0; first | rwa [add_block] at this | exact this) GW137.out))) _).trans (((cell_far (p := ⟨gb137, _, none⟩) (by first | exact qnn (qnl (by have := qbl _ _ hw134_0; first | rwa [add_block] at this | exact this) GW137.out) | (rw [add_block]; exact qnn (qnl (by have := qbl _ _ hw134_0; first | rwa [add_block] at this | exact this) GW137.out)) | (show (Addr.add _ _).block ≠ _; rw [add_block]; exact qnn (qnl (by have := qbl _ _ hw134_0; first | rwa [add_block] at this | exact this) GW137.out)) | (dsimp only; exact qnn (qnl (by have := qbl _ _ hw134_0; first | rwa [add_block] at this | exact this) GW137.out))) _).trans (((cell_far (p := ⟨gb137, _, none⟩) (by first | exact qnn (qnl (by have := qbl _ _ hw134_0; first | rwa [add_block] at this | exact this) GW137.out) | (rw [add_block]; exact qnn (qnl (by have := qbl _ _ hw134_0; first | rwa [add_block] at this | exact this) GW137.out)) | (show (Addr.add _ _).block ≠ _; rw [add_block]; exact qnn (qnl (by have := qbl _ _ hw134_0; first | rwa [add_block] at this | exact this) GW137.out)) | (dsimp only; exact qnn (qnl (by have := qbl _ _ hw134_0; first | rwa [add_block] at this | exact this) GW137.out))) _).trans (hHeld.2.2.2.2.2.2.2.1)))))), ((cell_far (p := ⟨gb137, _, none⟩) (by first | exact qnn (qnl (by have := qbl _ _ hw134_1; first | rwa [add_block] at this | exact this) GW137.out) | (rw [add_block]; exact qnn (qnl (by have := qbl _ _ hw134_1; first | rwa [add_block] at this | exact this) GW137.out)) | (show (Addr.add _ _).block ≠ _; rw [add_block]; exact qnn (qnl (by have := qbl _ _ hw134_1; first | rwa [add_block] at this | exact this) GW137.out)) | (dsimp only; exact qnn (qnl (by have := qbl _ _ hw134_1; first | rwa [add_block] at this | exact this) GW137.out))) _).trans (((cell_far (p := ⟨gb137, _, none⟩) (by first | exact qnn (qnl (by have := qbl _ _ hw134_1; first | rwa [add_block] at this | exact this) GW137.out) | (rw [add_block]; exact qnn (qnl (by have := qbl _ _ hw134_1; first | rwa [add_block] at this | exact this) GW137.out)) | (show (Addr.add _ _).block ≠ _; rw [add_block]; exact qnn (qnl (by have := qbl _ _ hw134_1; first | rwa [add_block] at this | exact this) GW137.out)) | (dsimp only; exact qnn (qnl (by have := qbl _ _ hw134_1; first | rwa [add_block] at this | exact this) GW137.out))) _).trans (((cell_far (p := ⟨gb137, _, none⟩) (by first | exact qnn (qnl (by have := qbl _ _ hw134_1; first | rwa [add_block] at this | exact this) GW137.out) | (rw [add_block]; exact qnn (qnl (by have := qbl _ _ hw134_1; first | rwa [add_block] at this | exact this) GW137.out)) | (show (Addr.add _ _).block ≠ _; rw [add_block]; exact qnn (qnl (by have := qbl _ _ hw134_1; first | rwa [add_block] at this | exact this) GW137.out)) | (dsimp only; exact qnn (qnl (by have := qbl _ _ hw134_1; first | rwa [add_block] at this | exact this) GW137.out))) _).trans (hHeld.2.2.2.2.2.2.2.2.1)))))), ((cell_far (p := ⟨gb137, _, none⟩) (by first | exact qnn (qnl (by have := qbl _ _ hw134_2; first | rwa [add_block] at this | exact this) GW137.out) | (rw [add_block]; exact qnn (qnl (by have := qbl _ _ hw134_2; first | rwa [add_block] at this | exact this) GW137.out)) | (show (Addr.add _ _).block ≠ _; rw [add_block]; exact qnn (qnl (by have := qbl _ _ hw134_2; first | rwa [add_block] at this | exact this) GW137.out)) | (dsimp only; exact qnn (qnl (by have := qbl _ _ hw134_2; first | rwa [add_block] at this | exact this) GW137.out))) _).trans (((cell_far (p := ⟨gb137, _, none⟩) (by first | exact qnn (qnl (by have := qbl _ _ hw134_2; first | rwa [add_block] at this | exact this) GW137.out) | (rw [add_block]; exact qnn (qnl (by have := qbl _ _ hw134_2; first | rwa [add_block] at this | exact this) GW137.out)) | (show (Addr.add _ _).block ≠ _; rw [add_block]; exact qnn (qnl (by have := qbl _ _ hw134_2; first | rwa [add_block] at this | exact this) GW137.out)) | (dsimp only; exact qnn (qnl (by have := qbl _ _ hw134_2; first | rwa [add_block] at this | exact this) GW137.out))) _).trans (((cell_far (p := ⟨gb137, _, none⟩) (by first | exact qnn (qnl (by have := qbl _ _ hw134_2; first | rwa [add_block] at this | exact this) GW137.out) | (rw [add_block]; exact qnn (qnl (by have := qbl _ _ hw134_2; first | rwa [add_block] at this | exact this) GW137.out)) | (show (Addr.add _ _).block ≠ _; rw [add_block]; exact qnn (qnl (by have := qbl _ _ hw134_2; first | rwa [add_block] at this | exact this) GW137.out)) | (dsimp only; exact qnn (qnl (by have := qbl _ _ hw134_2; first | rwa [add_block] at this | exact this) GW137.out))) _).trans (hHeld.2.2.2.2.2.2.2.2.2.1)))))), ((cell_far (p := ⟨gb137, _, none⟩) (by first | exact qnn (qnl (by have := qbl _ _ hw135_0; first | rwa [add_block] at this | exact this) GW137.out) | (rw [add_block]; exact qnn (qnl (by have := qbl _ _ hw135_0; first | rwa [add_block] at this | exact this) GW137.out)) | (show (Addr.add _ _).block ≠ _; rw [add_block]; exact qnn (qnl (by have := qbl _ _ hw135_0; first | rwa [add_block] at this | exact this) GW137.out)) | (dsimp only; exact qnn (qnl (by have := qbl _ _ hw135_0; first | rwa [add_block] at this | exact this) GW137.out))) _).trans (((cell_far (p := ⟨gb137, _, none⟩) (by first | exact qnn (qnl (by have := qbl _ _ hw135_0; first | rwa [add_block] at this | exact this) GW137.out) | (rw [add_block]; exact qnn (qnl (by have := qbl _ _ hw135_0; first | rwa [add_block] at this | exact this) GW137.out)) | (show (Addr.add _ _).block ≠ _; rw [add_block]; exact qnn (qnl (by have := qbl _ _ hw135_0; first | rwa [add_block] at this | exact this) GW137.out)) | (dsimp only; exact qnn (qnl (by have := qbl _ _ hw135_0; first | rwa [add_block] at this | exact this) GW137.out))) _).trans (((cell_far (p := ⟨gb137, _, none⟩) (by first | exact qnn (qnl (by have := qbl _ _ hw135_0; first | rwa [add_block] at this | exact this) GW137.out) | (rw [add_block]; exact qnn (qnl (by have := qbl _ _ hw135_0; first | rwa [add_block] at this | exact this) GW137.out)) | (show (Addr.add _ _).block ≠ _; rw [add_block]; exact qnn (qnl (by have := qbl _ _ hw135_0; first | rwa [add_block] at this | exact this) GW137.out)) | (dsimp only; exact qnn (qnl (by have := qbl _ _ hw135_0; first | rwa [add_block] at this | exact this) GW137.out))) _).trans (hHeld.2.2.2.2.2.2.2.2.2.2.1)))))), ((cell_far (p := ⟨gb137, _, none⟩) (by first | exact qnn (qnl (by have := qbl _ _ hw135_1; first | rwa [add_block] at this | exact this) GW137.out) | (rw [add_block]; exact qnn (qnl (by have := qbl _ _ hw135_1; first | rwa [add_block] at this | exact this) GW137.out)) | (show (Addr.add _ _).block ≠ _; rw [add_block]; exact qnn (qnl (by have := qbl _ _ hw135_1; first | rwa [add_block] at this | exact this) GW137.out)) | (dsimp only; exact qnn (qnl (by have := qbl _ _ hw135_1; first | rwa [add_block] at this | exact this) GW137.out))) _).trans (((cell_far (p := ⟨gb137, _, none⟩) (by first | exact qnn (qnl (by have := qbl _ _ hw135_1; first | rwa [add_block] at this | exact this) GW137.out) | (rw [add_block]; exact qnn (qnl (by have := qbl _ _ hw135_1; first | rwa [add_block] at this | exact this) GW137.out)) | (show (Addr.add _ _).block ≠ _; rw [add_block]; exact qnn (qnl (by have := qbl _ _ hw135_1; first | rwa [add_block] at this | exact this) GW137.out)) | (dsimp only; exact qnn (qnl (by have := qbl _ _ hw135_1; first | rwa [add_block] at this | exact this) GW137.out))) _).trans (((cell_far (p := ⟨gb137, _, none⟩) (by first | exact qnn (qnl (by have := qbl _ _ hw135_1; first | rwa [add_block] at this | exact this) GW137.out) | (rw [add_block]; exact qnn (qnl (by have := qbl _ _ hw135_1; first | rwa [add_block] at this | exact this) GW137.out)) | (show (Addr.add _ _).block ≠ _; rw [add_block]; exact qnn (qnl (by have := qbl _ _ hw135_1; first | rwa [add_block] at this | exact this) GW137.out)) | (dsimp only; exact qnn (qnl (by have := qbl _ _ hw135_1; first | rwa [add_block] at this | exact this) GW137.out))) _).trans (hHeld.2.2.2.2.2.2.2.2.2.2.2.1)))))), ((cell_far (p := ⟨gb137, _, none⟩) (by first | exact qnn (qnl (by have := qbl _ _ hw135_2; first | rwa [add_block] at this | exact this) GW137.out) | (rw [add_block]; exact qnn (qnl (by have := qbl _ _ hw135_2; first | rwa [add_block] at this | exact this) GW137.out)) | (show (Addr.add _ _).block ≠ _; rw [add_block]; exact qnn (qnl (by have := qbl _ _ hw135_2; first | rwa [add_block] at this | exact this) GW137.out)) | (dsimp only; exact qnn (qnl (by have := qbl _ _ hw135_2; first | rwa [add_block] at this | exact this) GW137.out))) _).trans (((cell_far (p := ⟨gb137, _, none⟩) (by first | exact qnn (qnl (by have := qbl _ _ hw135_2; first | rwa [add_block] at this | exact this) GW137.out) | (rw [add_block]; exact qnn (qnl (by have := qbl _ _ hw135_2; first | rwa [add_block] at this | exact this) GW137.out)) | (show (Addr.add _ _).block ≠ _; rw [add_block]; exact qnn (qnl (by have := qbl _ _ hw135_2; first | rwa [add_block] at this | exact this) GW137.out)) | (dsimp only; exact qnn (qnl (by have := qbl _ _ hw135_2; first | rwa [add_block] at this | exact this) GW137.out))) _).trans (((cell_far (p := ⟨gb137, _, none⟩) (by first | exact qnn (qnl (by have := qbl _ _ hw135_2; first | rwa [add_block] at this | exact this) GW137.out) | (rw [add_block]; exact qnn (qnl (by have := qbl _ _ hw135_2; first | rwa [add_block] at this | exact this) GW137.out)) | (show (Addr.add _ _).block ≠ _; rw [add_block]; exact qnn (qnl (by have := qbl _ _ hw135_2; first | rwa [add_block] at this | exact this) GW137.out)) | (dsimp only; exact qnn (qnl (by have := qbl _ _ hw135_2; first | rwa [add_block] at this | exact this) GW137.out))) _).trans (hHeld.2.2.2.2.2.2.2.2.2.2.2.2))))))⟩ (fun hHeld => ?_)
     clear hK K
     refine done_ (done_of HT_.out (by kernel_rfl)) ?_
     have hnb20 := NB133_132.out
     have hnc20 := NB132_133.out
     have hnb21 := NB133_136.out
     have hnc21 := NB136_133.out
     have hnb22 := NB133_137.out
     have hnc22 := NB137_133.out
     have hcz23_0 : w13.cell? ⟨gb133, 0, none⟩ = some (.int .i64 a1_0) := (qb1 BK133.out 0).trans rfl
     have hcz23_1 : w13.cell? ⟨gb133, 1, none⟩ = some (.int .i64 a1_1) := (qb1 BK133.out 1).trans rfl
     have hcz23_2 : w13.cell? ⟨gb133, 2, none⟩ = some (.int .i64 a1_2) := (qb1 BK133.out 2).trans rfl
     have hcz23_3 : w13.cell? ⟨gb133, 3, none⟩ = some (.int .i64 a1_3) := (qb1 BK133.out 3).trans rfl
     have hfz23_0 := qb2 BK133.out 0
     have hfz23_1 := qb2 BK133.out 1
     have hfz23_2 := qb2 BK133.out 2
     have hfz23_3 := qb2 BK133.out 3
     go_upto_if 23 with (fail)
     go_cut [23] (fun v23 wc => ∃ (kq : Nat) (x23_6 : Bool), v23 = .bool x23_6 ∧ Aside0 (super_fits.j0 kq a1_2 x23_6 l0_0 l0_1 a0_2 a1_0 a1_1 a1_2 a1_3 ((rd_T35 l0_0 a1_0).f0) ((rd_T35 l0_0 a1_0).f1) ((rd_T35 l0_0 a1_0).f2) ((rd_T35 l0_0 a1_1).f0) ((rd_T35 l0_0 a1_1).f1) ((rd_T35 l0_0 a1_1).f2) = some r) ∧ Aside0 (kq ≤ k) ∧ Aside0 (wc.heap[gb132]? = some (.cells #[(.slice (some ad134) l0_0.length c0_0), (.slice A0_1 l0_1.length c0_1), .int .i64 a0_2] 25 (0, 0))) ∧ Aside0 (wc.heap[gb133]? = some (.cells #[.int .i64 a1_0, .int .i64 a1_1, .int .i64 a1_2, .int .i64 a1_3] 32 (0, 0))) ∧ Aside0 (wc.heap[gb136]? = some (.cells #[.int .i64 ((rd_T35 l0_0 a1_0).f0), .int .i64 ((rd_T35 l0_0 a1_0).f1), .int .i64 ((rd_T35 l0_0 a1_0).f2)] 35 (0, 0))) ∧ Aside0 (wc.heap[gb137]? = some (.cells #[.int .i64 ((rd_T35 l0_0 a1_1).f0), .int .i64 ((rd_T35 l0_0 a1_1).f1), .int .i64 ((rd_T35 l0_0 a1_1).f2)] 35 (0, 0))) ∧ Aside0 (Below w.heap.size w wc))
     case first =>
      have H := HC7.out
      clear HC7
      by_cases c24 : a1_2 = 1
      ·rw [if_pos c24] at H
       have c24b0 : (a1_2 == 1) = true := beq_iff_eq.mpr c24
       have c24b1 : (a1_2 != 1) = false := bne_eq_false_iff_eq.mpr c24
       clear c24
       (first | rw [c24b0] | (simp only [i64_w, i32_w]; rw [c24b0]) | skip)
       have H' := qam H
       clear H
       go_wp2
       go_meet
       case rel => exact ⟨_, ((a1_2 == 1)), (by first | rfl | (simp; done) | (simp [*]; done)), H', ⟨by first | omega | exact Nat.le_refl _⟩, ⟨by (with_reducible repeat (first | refine qb3 ?_ _ | refine qb5 ?_ | refine qb4 ?_ _)); refine blk_far ?_ NB132_137.out _; (with_reducible repeat (first | refine qb3 ?_ _ | refine qb5 ?_ | refine qb4 ?_ _)); refine blk_far ?_ NB132_137.out _; (with_reducible repeat (first | refine qb3 ?_ _ | refine qb5 ?_ | refine qb4 ?_ _)); refine blk_far ?_ NB132_137.out _; (with_reducible repeat (first | refine qb3 ?_ _ | refine qb5 ?_ | refine qb4 ?_ _)); refine blk_far ?_ NB132_136.out _; (with_reducible repeat (first | refine qb3 ?_ _ | refine qb5 ?_ | refine qb4 ?_ _)); refine blk_far ?_ NB132_136.out _; (with_reducible repeat (first | refine qb3 ?_ _ | refine qb5 ?_ | refine qb4 ?_ _)); refine blk_far ?_ NB132_136.out _; (with_reducible repeat (first | refine qb3 ?_ _ | refine qb5 ?_ | refine qb4 ?_ _)); exact BK132.out⟩, ⟨by (with_reducible repeat (first | refine qb3 ?_ _ | refine qb5 ?_ | refine qb4 ?_ _)); refine blk_far ?_ NB133_137.out _; (with_reducible repeat (first | refine qb3 ?_ _ | refine qb5 ?_ | refine qb4 ?_ _)); refine blk_far ?_ NB133_137.out _; (with_reducible repeat (first | refine qb3 ?_ _ | refine qb5 ?_ | refine qb4 ?_ _)); refine blk_far ?_ NB133_137.out _; (with_reducible repeat (first | refine qb3 ?_ _ | refine qb5 ?_ | refine qb4 ?_ _)); refine blk_far ?_ NB133_136.out _; (with_reducible repeat (first | refine qb3 ?_ _ | refine qb5 ?_ | refine qb4 ?_ _)); refine blk_far ?_ NB133_136.out _; (with_reducible repeat (first | refine qb3 ?_ _ | refine qb5 ?_ | refine qb4 ?_ _)); refine blk_far ?_ NB133_136.out _; (with_reducible repeat (first | refine qb3 ?_ _ | refine qb5 ?_ | refine qb4 ?_ _)); exact BK133.out⟩, ⟨by (with_reducible repeat (first | refine qb3 ?_ _ | refine qb5 ?_ | refine qb4 ?_ _)); refine blk_far ?_ NB136_137.out _; (with_reducible repeat (first | refine qb3 ?_ _ | refine qb5 ?_ | refine qb4 ?_ _)); refine blk_far ?_ NB136_137.out _; (with_reducible repeat (first | refine qb3 ?_ _ | refine qb5 ?_ | refine qb4 ?_ _)); refine blk_far ?_ NB136_137.out _; (with_reducible repeat (first | refine qb3 ?_ _ | refine qb5 ?_ | refine qb4 ?_ _)); refine blk_put (cs := #[.int .i64 ((rd_T35 l0_0 a1_0).f0), .int .i64 ((rd_T35 l0_0 a1_0).f1), .int .i64 0]) ?_ 2 _ rfl; (with_reducible repeat (first | refine qb3 ?_ _ | refine qb5 ?_ | refine qb4 ?_ _)); refine blk_put (cs := #[.int .i64 ((rd_T35 l0_0 a1_0).f0), .int .i64 0, .int .i64 0]) ?_ 1 _ rfl; (with_reducible repeat (first | refine qb3 ?_ _ | refine qb5 ?_ | refine qb4 ?_ _)); refine blk_put (cs := #[.int .i64 0, .int .i64 0, .int .i64 0]) ?_ 0 _ rfl; (with_reducible repeat (first | refine qb3 ?_ _ | refine qb5 ?_ | refine qb4 ?_ _)); exact BK136.out⟩, ⟨by (with_reducible repeat (first | refine qb3 ?_ _ | refine qb5 ?_ | refine qb4 ?_ _)); refine blk_put (cs := #[.int .i64 ((rd_T35 l0_0 a1_1).f0), .int .i64 ((rd_T35 l0_0 a1_1).f1), .int .i64 0]) ?_ 2 _ rfl; (with_reducible repeat (first | refine qb3 ?_ _ | refine qb5 ?_ | refine qb4 ?_ _)); refine blk_put (cs := #[.int .i64 ((rd_T35 l0_0 a1_1).f0), .int .i64 0, .int .i64 0]) ?_ 1 _ rfl; (with_reducible repeat (first | refine qb3 ?_ _ | refine qb5 ?_ | refine qb4 ?_ _)); refine blk_put (cs := #[.int .i64 0, .int .i64 0, .int .i64 0]) ?_ 0 _ rfl; (with_reducible repeat (first | refine qb3 ?_ _ | refine qb5 ?_ | refine qb4 ?_ _)); refine blk_far ?_ NB137_136.out _; (with_reducible repeat (first | refine qb3 ?_ _ | refine qb5 ?_ | refine qb4 ?_ _)); refine blk_far ?_ NB137_136.out _; (with_reducible repeat (first | refine qb3 ?_ _ | refine qb5 ?_ | refine qb4 ?_ _)); refine blk_far ?_ NB137_136.out _; (with_reducible repeat (first | refine qb3 ?_ _ | refine qb5 ?_ | refine qb4 ?_ _)); exact BK137.out⟩, ⟨by repeat (first | (with_reducible first | exact HB.out | apply qw1 | apply qw2 | apply qw3 | refine qw4 ?_ GE132.out | refine qw4 ?_ GE133.out | refine qw4 ?_ GE136.out | refine qw4 ?_ GE137.out) | exact HB.out)⟩⟩
      ·rw [if_neg c24] at H
       have c24b0 : (a1_2 == 1) = false := beq_eq_false_iff_ne.mpr c24
       have c24b1 : (a1_2 != 1) = true := bne_iff_ne.mpr c24
       (first | rw [c24b0] | (simp only [i64_w, i32_w]; rw [c24b0]) | skip)
       have H' := qam H
       clear H
       go_wp2
       go_meet
       case rel => exact ⟨_, ((a1_2 == 5)), (by first | rfl | (simp; done) | (simp [*]; done)), H', ⟨by first | omega | exact Nat.le_refl _⟩, ⟨by (with_reducible repeat (first | refine qb3 ?_ _ | refine qb5 ?_ | refine qb4 ?_ _)); refine blk_far ?_ NB132_137.out _; (with_reducible repeat (first | refine qb3 ?_ _ | refine qb5 ?_ | refine qb4 ?_ _)); refine blk_far ?_ NB132_137.out _; (with_reducible repeat (first | refine qb3 ?_ _ | refine qb5 ?_ | refine qb4 ?_ _)); refine blk_far ?_ NB132_137.out _; (with_reducible repeat (first | refine qb3 ?_ _ | refine qb5 ?_ | refine qb4 ?_ _)); refine blk_far ?_ NB132_136.out _; (with_reducible repeat (first | refine qb3 ?_ _ | refine qb5 ?_ | refine qb4 ?_ _)); refine blk_far ?_ NB132_136.out _; (with_reducible repeat (first | refine qb3 ?_ _ | refine qb5 ?_ | refine qb4 ?_ _)); refine blk_far ?_ NB132_136.out _; (with_reducible repeat (first | refine qb3 ?_ _ | refine qb5 ?_ | refine qb4 ?_ _)); exact BK132.out⟩, ⟨by (with_reducible repeat (first | refine qb3 ?_ _ | refine qb5 ?_ | refine qb4 ?_ _)); refine blk_far ?_ NB133_137.out _; (with_reducible repeat (first | refine qb3 ?_ _ | refine qb5 ?_ | refine qb4 ?_ _)); refine blk_far ?_ NB133_137.out _; (with_reducible repeat (first | refine qb3 ?_ _ | refine qb5 ?_ | refine qb4 ?_ _)); refine blk_far ?_ NB133_137.out _; (with_reducible repeat (first | refine qb3 ?_ _ | refine qb5 ?_ | refine qb4 ?_ _)); refine blk_far ?_ NB133_136.out _; (with_reducible repeat (first | refine qb3 ?_ _ | refine qb5 ?_ | refine qb4 ?_ _)); refine blk_far ?_ NB133_136.out _; (with_reducible repeat (first | refine qb3 ?_ _ | refine qb5 ?_ | refine qb4 ?_ _)); refine blk_far ?_ NB133_136.out _; (with_reducible repeat (first | refine qb3 ?_ _ | refine qb5 ?_ | refine qb4 ?_ _)); exact BK133.out⟩, ⟨by (with_reducible repeat (first | refine qb3 ?_ _ | refine qb5 ?_ | refine qb4 ?_ _)); refine blk_far ?_ NB136_137.out _; (with_reducible repeat (first | refine qb3 ?_ _ | refine qb5 ?_ | refine qb4 ?_ _)); refine blk_far ?_ NB136_137.out _; (with_reducible repeat (first | refine qb3 ?_ _ | refine qb5 ?_ | refine qb4 ?_ _)); refine blk_far ?_ NB136_137.out _; (with_reducible repeat (first | refine qb3 ?_ _ | refine qb5 ?_ | refine qb4 ?_ _)); refine blk_put (cs := #[.int .i64 ((rd_T35 l0_0 a1_0).f0), .int .i64 ((rd_T35 l0_0 a1_0).f1), .int .i64 0]) ?_ 2 _ rfl; (with_reducible repeat (first | refine qb3 ?_ _ | refine qb5 ?_ | refine qb4 ?_ _)); refine blk_put (cs := #[.int .i64 ((rd_T35 l0_0 a1_0).f0), .int .i64 0, .int .i64 0]) ?_ 1 _ rfl; (with_reducible repeat (first | refine qb3 ?_ _ | refine qb5 ?_ | refine qb4 ?_ _)); refine blk_put (cs := #[.int .i64 0, .int .i64 0, .int .i64 0]) ?_ 0 _ rfl; (with_reducible repeat (first | refine qb3 ?_ _ | refine qb5 ?_ | refine qb4 ?_ _)); exact BK136.out⟩, ⟨by (with_reducible repeat (first | refine qb3 ?_ _ | refine qb5 ?_ | refine qb4 ?_ _)); refine blk_put (cs := #[.int .i64 ((rd_T35 l0_0 a1_1).f0), .int .i64 ((rd_T35 l0_0 a1_1).f1), .int .i64 0]) ?_ 2 _ rfl; (with_reducible repeat (first | refine qb3 ?_ _ | refine qb5 ?_ | refine qb4 ?_ _)); refine blk_put (cs := #[.int .i64 ((rd_T35 l0_0 a1_1).f0), .int .i64 0, .int .i64 0]) ?_ 1 _ rfl; (with_reducible repeat (first | refine qb3 ?_ _ | refine qb5 ?_ | refine qb4 ?_ _)); refine blk_put (cs := #[.int .i64 0, .int .i64 0, .int .i64 0]) ?_ 0 _ rfl; (with_reducible repeat (first | refine qb3 ?_ _ | refine qb5 ?_ | refine qb4 ?_ _)); refine blk_far ?_ NB137_136.out _; (with_reducible repeat (first | refine qb3 ?_ _ | refine qb5 ?_ | refine qb4 ?_ _)); refine blk_far ?_ NB137_136.out _; (with_reducible repeat (first | refine qb3 ?_ _ | refine qb5 ?_ | refine qb4 ?_ _)); refine blk_far ?_ NB137_136.out _; (with_reducible repeat (first | refine qb3 ?_ _ | refine qb5 ?_ | refine qb4 ?_ _)); exact BK137.out⟩, ⟨by repeat (first | (with_reducible first | exact HB.out | apply qw1 | apply qw2 | apply qw3 | refine qw4 ?_ GE132.out | refine qw4 ?_ GE133.out | refine qw4 ?_ GE136.out | refine qw4 ?_ GE137.out) | exact HB.out)⟩⟩
     case rest =>
      clear HC7
      try clear c1
      try clear p1
      try clear q1
      try clear hx1
      try clear c2
      try clear p2
      try clear c3
      try clear c3b0
      try clear c4
      try clear c4b0
      try clear c5
      try clear c5b0
      try clear c6
      try clear c6b0
      try clear p13
      try clear q13
      try clear hx13
      try clear c15
      try clear c20
      try clear c21
      try clear c22
      try clear c24
      try clear c24b0
      try clear c24b1
      try clear hcz23_0
      try clear hcz23_1
      try clear hcz23_2
      try clear hcz23_3
      try clear hfz23_0
      try clear hfz23_1
      try clear hfz23_2
      try clear hfz23_3
      try clear hx134_0
      try clear hx134_1
      try clear hx134_2
      try clear hx135_0
      try clear hx135_1
      try clear hx135_2
      try clear p134
      try clear p135
      try clear q134
      try clear q135
      obtain ⟨kq, x23_6, rfl, HA, HJ6, BK132, BK133, BK136, BK137, HB⟩ := hcut
      cases kq with
      | zero => exact absurd HA.out (by simp [super_fits.j0])
      | succ kj6 =>
       have H := HA.out
       clear HA
       simp only [super_fits.j0] at H
       by_cases c25 : x23_6 = true
       ·subst c25
        have H1 : (if a1_2 = 5 then (if ((rd_T35 l0_0 a1_0).f1) = 2 then (if ((rd_T35 l0_0 a1_0).f0) = ((rd_T35 l0_0 a1_1).f0) then (if ((rd_T35 l0_0 a1_0).f1) = 3 then (some false) else (if ((rd_T35 l0_0 a1_0).f1) = 4 then (some false) else (some (((rd_T35 l0_0 a1_1).f1) != 1)))) else (some false)) else (some false)) else (if ((rd_T35 l0_0 a1_0).f0) = ((rd_T35 l0_0 a1_1).f0) then (if ((rd_T35 l0_0 a1_0).f1) = 3 then (some false) else (if ((rd_T35 l0_0 a1_0).f1) = 4 then (some false) else (some (((rd_T35 l0_0 a1_1).f1) != 1)))) else (some false))) = some r := by rw [if_pos rfl] at H; exact H
        clear H
        have H := H1
        clear H1
        by_cases c26 : a1_2 = 5
        ·rw [if_pos c26] at H
         have c26b0 : (a1_2 == 5) = true := beq_iff_eq.mpr c26
         have c26b1 : (a1_2 != 5) = false := bne_eq_false_iff_eq.mpr c26
         clear c26
         by_cases c27 : ((rd_T35 l0_0 a1_0).f1) = 2
         ·rw [if_pos c27] at H
          have c27b0 : (((rd_T35 l0_0 a1_0).f1) == 2) = true := beq_iff_eq.mpr c27
          have c27b1 : (((rd_T35 l0_0 a1_0).f1) != 2) = false := bne_eq_false_iff_eq.mpr c27
          clear c27
          by_cases c28 : ((rd_T35 l0_0 a1_0).f0) = ((rd_T35 l0_0 a1_1).f0)
          ·rw [if_pos c28] at H
           have c28b0 : (((rd_T35 l0_0 a1_0).f0) == ((rd_T35 l0_0 a1_1).f0)) = true := beq_iff_eq.mpr c28
           have c28b1 : (((rd_T35 l0_0 a1_0).f0) != ((rd_T35 l0_0 a1_1).f0)) = false := bne_eq_false_iff_eq.mpr c28
           clear c28
           by_cases c29 : ((rd_T35 l0_0 a1_0).f1) = 3
           ·rw [if_pos c29] at H
            have c29b0 : (((rd_T35 l0_0 a1_0).f1) == 3) = true := beq_iff_eq.mpr c29
            have c29b1 : (((rd_T35 l0_0 a1_0).f1) != 3) = false := bne_eq_false_iff_eq.mpr c29
            clear c29
            obtain rfl := Option.some.inj H
            have hnb30 := NB133_132.out
            have hnc30 := NB132_133.out
            have hnb31 := NB133_136.out
            have hnc31 := NB136_133.out
            have hnb32 := NB133_137.out
            have hnc32 := NB137_133.out
            have hcz33_0 : wc.cell? ⟨gb133, 0, none⟩ = some (.int .i64 a1_0) := (qb1 BK133.out 0).trans rfl
            have hcz33_1 : wc.cell? ⟨gb133, 1, none⟩ = some (.int .i64 a1_1) := (qb1 BK133.out 1).trans rfl
            have hcz33_2 : wc.cell? ⟨gb133, 2, none⟩ = some (.int .i64 a1_2) := (qb1 BK133.out 2).trans rfl
            have hcz33_3 : wc.cell? ⟨gb133, 3, none⟩ = some (.int .i64 a1_3) := (qb1 BK133.out 3).trans rfl
            have hfz33_0 := qb2 BK133.out 0
            have hfz33_1 := qb2 BK133.out 1
            have hfz33_2 := qb2 BK133.out 2
            have hfz33_3 := qb2 BK133.out 3
            have hnb34 := NB136_132.out
            have hnc34 := NB132_136.out
            have hnb35 := NB136_137.out
            have hnc35 := NB137_136.out
            have hcz36_0 : wc.cell? ⟨gb136, 0, none⟩ = some (.int .i64 ((rd_T35 l0_0 a1_0).f0)) := (qb1 BK136.out 0).trans rfl
            have hcz36_1 : wc.cell? ⟨gb136, 1, none⟩ = some (.int .i64 ((rd_T35 l0_0 a1_0).f1)) := (qb1 BK136.out 1).trans rfl
            have hcz36_2 : wc.cell? ⟨gb136, 2, none⟩ = some (.int .i64 ((rd_T35 l0_0 a1_0).f2)) := (qb1 BK136.out 2).trans rfl
            have hfz36_0 := qb2 BK136.out 0
            have hfz36_1 := qb2 BK136.out 1
            have hfz36_2 := qb2 BK136.out 2
            have hnb37 := NB137_132.out
            have hnc37 := NB132_137.out
            have hcz38_0 : wc.cell? ⟨gb137, 0, none⟩ = some (.int .i64 ((rd_T35 l0_0 a1_1).f0)) := (qb1 BK137.out 0).trans rfl
            have hcz38_1 : wc.cell? ⟨gb137, 1, none⟩ = some (.int .i64 ((rd_T35 l0_0 a1_1).f1)) := (qb1 BK137.out 1).trans rfl
            have hcz38_2 : wc.cell? ⟨gb137, 2, none⟩ = some (.int .i64 ((rd_T35 l0_0 a1_1).f2)) := (qb1 BK137.out 2).trans rfl
            have hfz38_0 := qb2 BK137.out 0
            have hfz38_1 := qb2 BK137.out 1
            have hfz38_2 := qb2 BK137.out 2
            go_wp2
            go_ret
            exact ⟨by first | rfl | (simp [errW_none, errW_some] <;> rfl) | (simp [*, errW_none, errW_some] <;> rfl), by repeat (first | (with_reducible first | exact HB.out | apply qw1 | apply qw2 | apply qw3 | refine qw4 ?_ GE132.out | refine qw4 ?_ GE133.out | refine qw4 ?_ GE136.out | refine qw4 ?_ GE137.out) | exact HB.out)⟩
           ·rw [if_neg c29] at H
            have c29b0 : (((rd_T35 l0_0 a1_0).f1) == 3) = false := beq_eq_false_iff_ne.mpr c29
            have c29b1 : (((rd_T35 l0_0 a1_0).f1) != 3) = true := bne_iff_ne.mpr c29
            by_cases c39 : ((rd_T35 l0_0 a1_0).f1) = 4
            ·rw [if_pos c39] at H
             have c39b0 : (((rd_T35 l0_0 a1_0).f1) == 4) = true := beq_iff_eq.mpr c39
             have c39b1 : (((rd_T35 l0_0 a1_0).f1) != 4) = false := bne_eq_false_iff_eq.mpr c39
             clear c39
             obtain rfl := Option.some.inj H
             have hnb40 := NB133_132.out
             have hnc40 := NB132_133.out
             have hnb41 := NB133_136.out
             have hnc41 := NB136_133.out
             have hnb42 := NB133_137.out
             have hnc42 := NB137_133.out
             have hcz43_0 : wc.cell? ⟨gb133, 0, none⟩ = some (.int .i64 a1_0) := (qb1 BK133.out 0).trans rfl
             have hcz43_1 : wc.cell? ⟨gb133, 1, none⟩ = some (.int .i64 a1_1) := (qb1 BK133.out 1).trans rfl
             have hcz43_2 : wc.cell? ⟨gb133, 2, none⟩ = some (.int .i64 a1_2) := (qb1 BK133.out 2).trans rfl
             have hcz43_3 : wc.cell? ⟨gb133, 3, none⟩ = some (.int .i64 a1_3) := (qb1 BK133.out 3).trans rfl
             have hfz43_0 := qb2 BK133.out 0
             have hfz43_1 := qb2 BK133.out 1
             have hfz43_2 := qb2 BK133.out 2
             have hfz43_3 := qb2 BK133.out 3
             have hnb44 := NB136_132.out
             have hnc44 := NB132_136.out
             have hnb45 := NB136_137.out
             have hnc45 := NB137_136.out
             have hcz46_0 : wc.cell? ⟨gb136, 0, none⟩ = some (.int .i64 ((rd_T35 l0_0 a1_0).f0)) := (qb1 BK136.out 0).trans rfl
             have hcz46_1 : wc.cell? ⟨gb136, 1, none⟩ = some (.int .i64 ((rd_T35 l0_0 a1_0).f1)) := (qb1 BK136.out 1).trans rfl
             have hcz46_2 : wc.cell? ⟨gb136, 2, none⟩ = some (.int .i64 ((rd_T35 l0_0 a1_0).f2)) := (qb1 BK136.out 2).trans rfl
             have hfz46_0 := qb2 BK136.out 0
             have hfz46_1 := qb2 BK136.out 1
             have hfz46_2 := qb2 BK136.out 2
             have hnb47 := NB137_132.out
             have hnc47 := NB132_137.out
             have hcz48_0 : wc.cell? ⟨gb137, 0, none⟩ = some (.int .i64 ((rd_T35 l0_0 a1_1).f0)) := (qb1 BK137.out 0).trans rfl
             have hcz48_1 : wc.cell? ⟨gb137, 1, none⟩ = some (.int .i64 ((rd_T35 l0_0 a1_1).f1)) := (qb1 BK137.out 1).trans rfl
             have hcz48_2 : wc.cell? ⟨gb137, 2, none⟩ = some (.int .i64 ((rd_T35 l0_0 a1_1).f2)) := (qb1 BK137.out 2).trans rfl
             have hfz48_0 := qb2 BK137.out 0
             have hfz48_1 := qb2 BK137.out 1
             have hfz48_2 := qb2 BK137.out 2
             go_wp2
             go_ret
             exact ⟨by first | rfl | (simp [errW_none, errW_some] <;> rfl) | (simp [*, errW_none, errW_some] <;> rfl), by repeat (first | (with_reducible first | exact HB.out | apply qw1 | apply qw2 | apply qw3 | refine qw4 ?_ GE132.out | refine qw4 ?_ GE133.out | refine qw4 ?_ GE136.out | refine qw4 ?_ GE137.out) | exact HB.out)⟩
            ·rw [if_neg c39] at H
             have c39b0 : (((rd_T35 l0_0 a1_0).f1) == 4) = false := beq_eq_false_iff_ne.mpr c39
             have c39b1 : (((rd_T35 l0_0 a1_0).f1) != 4) = true := bne_iff_ne.mpr c39
             obtain rfl := Option.some.inj H
             have hnb49 := NB133_132.out
             have hnc49 := NB132_133.out
             have hnb50 := NB133_136.out
             have hnc50 := NB136_133.out
             have hnb51 := NB133_137.out
             have hnc51 := NB137_133.out
             have hcz52_0 : wc.cell? ⟨gb133, 0, none⟩ = some (.int .i64 a1_0) := (qb1 BK133.out 0).trans rfl
             have hcz52_1 : wc.cell? ⟨gb133, 1, none⟩ = some (.int .i64 a1_1) := (qb1 BK133.out 1).trans rfl
             have hcz52_2 : wc.cell? ⟨gb133, 2, none⟩ = some (.int .i64 a1_2) := (qb1 BK133.out 2).trans rfl
             have hcz52_3 : wc.cell? ⟨gb133, 3, none⟩ = some (.int .i64 a1_3) := (qb1 BK133.out 3).trans rfl
             have hfz52_0 := qb2 BK133.out 0
             have hfz52_1 := qb2 BK133.out 1
             have hfz52_2 := qb2 BK133.out 2
             have hfz52_3 := qb2 BK133.out 3
             have hnb53 := NB136_132.out
             have hnc53 := NB132_136.out
             have hnb54 := NB136_137.out
             have hnc54 := NB137_136.out
             have hcz55_0 : wc.cell? ⟨gb136, 0, none⟩ = some (.int .i64 ((rd_T35 l0_0 a1_0).f0)) := (qb1 BK136.out 0).trans rfl
             have hcz55_1 : wc.cell? ⟨gb136, 1, none⟩ = some (.int .i64 ((rd_T35 l0_0 a1_0).f1)) := (qb1 BK136.out 1).trans rfl
             have hcz55_2 : wc.cell? ⟨gb136, 2, none⟩ = some (.int .i64 ((rd_T35 l0_0 a1_0).f2)) := (qb1 BK136.out 2).trans rfl
             have hfz55_0 := qb2 BK136.out 0
             have hfz55_1 := qb2 BK136.out 1
             have hfz55_2 := qb2 BK136.out 2
             have hnb56 := NB137_132.out
             have hnc56 := NB132_137.out
             have hcz57_0 : wc.cell? ⟨gb137, 0, none⟩ = some (.int .i64 ((rd_T35 l0_0 a1_1).f0)) := (qb1 BK137.out 0).trans rfl
             have hcz57_1 : wc.cell? ⟨gb137, 1, none⟩ = some (.int .i64 ((rd_T35 l0_0 a1_1).f1)) := (qb1 BK137.out 1).trans rfl
             have hcz57_2 : wc.cell? ⟨gb137, 2, none⟩ = some (.int .i64 ((rd_T35 l0_0 a1_1).f2)) := (qb1 BK137.out 2).trans rfl
             have hfz57_0 := qb2 BK137.out 0
             have hfz57_1 := qb2 BK137.out 1
             have hfz57_2 := qb2 BK137.out 2
             go_wp2
             go_ret
             exact ⟨by first | rfl | (simp [errW_none, errW_some] <;> rfl) | (simp [*, errW_none, errW_some] <;> rfl), by repeat (first | (with_reducible first | exact HB.out | apply qw1 | apply qw2 | apply qw3 | refine qw4 ?_ GE132.out | refine qw4 ?_ GE133.out | refine qw4 ?_ GE136.out | refine qw4 ?_ GE137.out) | exact HB.out)⟩
          ·rw [if_neg c28] at H
           have c28b0 : (((rd_T35 l0_0 a1_0).f0) == ((rd_T35 l0_0 a1_1).f0)) = false := beq_eq_false_iff_ne.mpr c28
           have c28b1 : (((rd_T35 l0_0 a1_0).f0) != ((rd_T35 l0_0 a1_1).f0)) = true := bne_iff_ne.mpr c28
           obtain rfl := Option.some.inj H
           have hnb58 := NB133_132.out
           have hnc58 := NB132_133.out
           have hnb59 := NB133_136.out
           have hnc59 := NB136_133.out
           have hnb60 := NB133_137.out
           have hnc60 := NB137_133.out
           have hcz61_0 : wc.cell? ⟨gb133, 0, none⟩ = some (.int .i64 a1_0) := (qb1 BK133.out 0).trans rfl
           have hcz61_1 : wc.cell? ⟨gb133, 1, none⟩ = some (.int .i64 a1_1) := (qb1 BK133.out 1).trans rfl
           have hcz61_2 : wc.cell? ⟨gb133, 2, none⟩ = some (.int .i64 a1_2) := (qb1 BK133.out 2).trans rfl
           have hcz61_3 : wc.cell? ⟨gb133, 3, none⟩ = some (.int .i64 a1_3) := (qb1 BK133.out 3).trans rfl
           have hfz61_0 := qb2 BK133.out 0
           have hfz61_1 := qb2 BK133.out 1
           have hfz61_2 := qb2 BK133.out 2
           have hfz61_3 := qb2 BK133.out 3
           have hnb62 := NB136_132.out
           have hnc62 := NB132_136.out
           have hnb63 := NB136_137.out
           have hnc63 := NB137_136.out
           have hcz64_0 : wc.cell? ⟨gb136, 0, none⟩ = some (.int .i64 ((rd_T35 l0_0 a1_0).f0)) := (qb1 BK136.out 0).trans rfl
           have hcz64_1 : wc.cell? ⟨gb136, 1, none⟩ = some (.int .i64 ((rd_T35 l0_0 a1_0).f1)) := (qb1 BK136.out 1).trans rfl
           have hcz64_2 : wc.cell? ⟨gb136, 2, none⟩ = some (.int .i64 ((rd_T35 l0_0 a1_0).f2)) := (qb1 BK136.out 2).trans rfl
           have hfz64_0 := qb2 BK136.out 0
           have hfz64_1 := qb2 BK136.out 1
           have hfz64_2 := qb2 BK136.out 2
           have hnb65 := NB137_132.out
           have hnc65 := NB132_137.out
           have hcz66_0 : wc.cell? ⟨gb137, 0, none⟩ = some (.int .i64 ((rd_T35 l0_0 a1_1).f0)) := (qb1 BK137.out 0).trans rfl
           have hcz66_1 : wc.cell? ⟨gb137, 1, none⟩ = some (.int .i64 ((rd_T35 l0_0 a1_1).f1)) := (qb1 BK137.out 1).trans rfl
           have hcz66_2 : wc.cell? ⟨gb137, 2, none⟩ = some (.int .i64 ((rd_T35 l0_0 a1_1).f2)) := (qb1 BK137.out 2).trans rfl
           have hfz66_0 := qb2 BK137.out 0
           have hfz66_1 := qb2 BK137.out 1
           have hfz66_2 := qb2 BK137.out 2
           go_wp2
           go_ret
           exact ⟨by first | rfl | (simp [errW_none, errW_some] <;> rfl) | (simp [*, errW_none, errW_some] <;> rfl), by repeat (first | (with_reducible first | exact HB.out | apply qw1 | apply qw2 | apply qw3 | refine qw4 ?_ GE132.out | refine qw4 ?_ GE133.out | refine qw4 ?_ GE136.out | refine qw4 ?_ GE137.out) | exact HB.out)⟩
         ·rw [if_neg c27] at H
          have c27b0 : (((rd_T35 l0_0 a1_0).f1) == 2) = false := beq_eq_false_iff_ne.mpr c27
          have c27b1 : (((rd_T35 l0_0 a1_0).f1) != 2) = true := bne_iff_ne.mpr c27
          obtain rfl := Option.some.inj H
          have hnb67 := NB133_132.out
          have hnc67 := NB132_133.out
          have hnb68 := NB133_136.out
          have hnc68 := NB136_133.out
          have hnb69 := NB133_137.out
          have hnc69 := NB137_133.out
          have hcz70_0 : wc.cell? ⟨gb133, 0, none⟩ = some (.int .i64 a1_0) := (qb1 BK133.out 0).trans rfl
          have hcz70_1 : wc.cell? ⟨gb133, 1, none⟩ = some (.int .i64 a1_1) := (qb1 BK133.out 1).trans rfl
          have hcz70_2 : wc.cell? ⟨gb133, 2, none⟩ = some (.int .i64 a1_2) := (qb1 BK133.out 2).trans rfl
          have hcz70_3 : wc.cell? ⟨gb133, 3, none⟩ = some (.int .i64 a1_3) := (qb1 BK133.out 3).trans rfl
          have hfz70_0 := qb2 BK133.out 0
          have hfz70_1 := qb2 BK133.out 1
          have hfz70_2 := qb2 BK133.out 2
          have hfz70_3 := qb2 BK133.out 3
          have hnb71 := NB136_132.out
          have hnc71 := NB132_136.out
          have hnb72 := NB136_137.out
          have hnc72 := NB137_136.out
          have hcz73_0 : wc.cell? ⟨gb136, 0, none⟩ = some (.int .i64 ((rd_T35 l0_0 a1_0).f0)) := (qb1 BK136.out 0).trans rfl
          have hcz73_1 : wc.cell? ⟨gb136, 1, none⟩ = some (.int .i64 ((rd_T35 l0_0 a1_0).f1)) := (qb1 BK136.out 1).trans rfl
          have hcz73_2 : wc.cell? ⟨gb136, 2, none⟩ = some (.int .i64 ((rd_T35 l0_0 a1_0).f2)) := (qb1 BK136.out 2).trans rfl
          have hfz73_0 := qb2 BK136.out 0
          have hfz73_1 := qb2 BK136.out 1
          have hfz73_2 := qb2 BK136.out 2
          go_wp2
          go_ret
          exact ⟨by first | rfl | (simp [errW_none, errW_some] <;> rfl) | (simp [*, errW_none, errW_some] <;> rfl), by repeat (first | (with_reducible first | exact HB.out | apply qw1 | apply qw2 | apply qw3 | refine qw4 ?_ GE132.out | refine qw4 ?_ GE133.out | refine qw4 ?_ GE136.out | refine qw4 ?_ GE137.out) | exact HB.out)⟩
        ·rw [if_neg c26] at H
         have c26b0 : (a1_2 == 5) = false := beq_eq_false_iff_ne.mpr c26
         have c26b1 : (a1_2 != 5) = true := bne_iff_ne.mpr c26
         by_cases c74 : ((rd_T35 l0_0 a1_0).f0) = ((rd_T35 l0_0 a1_1).f0)
         ·rw [if_pos c74] at H
          have c74b0 : (((rd_T35 l0_0 a1_0).f0) == ((rd_T35 l0_0 a1_1).f0)) = true := beq_iff_eq.mpr c74
          have c74b1 : (((rd_T35 l0_0 a1_0).f0) != ((rd_T35 l0_0 a1_1).f0)) = false := bne_eq_false_iff_eq.mpr c74
          clear c74
          by_cases c75 : ((rd_T35 l0_0 a1_0).f1) = 3
          ·rw [if_pos c75] at H
           have c75b0 : (((rd_T35 l0_0 a1_0).f1) == 3) = true := beq_iff_eq.mpr c75
           have c75b1 : (((rd_T35 l0_0 a1_0).f1) != 3) = false := bne_eq_false_iff_eq.mpr c75
           clear c75
           obtain rfl := Option.some.inj H
           have hnb76 := NB133_132.out
           have hnc76 := NB132_133.out
           have hnb77 := NB133_136.out
           have hnc77 := NB136_133.out
           have hnb78 := NB133_137.out
           have hnc78 := NB137_133.out
           have hcz79_0 : wc.cell? ⟨gb133, 0, none⟩ = some (.int .i64 a1_0) := (qb1 BK133.out 0).trans rfl
           have hcz79_1 : wc.cell? ⟨gb133, 1, none⟩ = some (.int .i64 a1_1) := (qb1 BK133.out 1).trans rfl
           have hcz79_2 : wc.cell? ⟨gb133, 2, none⟩ = some (.int .i64 a1_2) := (qb1 BK133.out 2).trans rfl
           have hcz79_3 : wc.cell? ⟨gb133, 3, none⟩ = some (.int .i64 a1_3) := (qb1 BK133.out 3).trans rfl
           have hfz79_0 := qb2 BK133.out 0
           have hfz79_1 := qb2 BK133.out 1
           have hfz79_2 := qb2 BK133.out 2
           have hfz79_3 := qb2 BK133.out 3
           have hnb80 := NB136_132.out
           have hnc80 := NB132_136.out
           have hnb81 := NB136_137.out
           have hnc81 := NB137_136.out
           have hcz82_0 : wc.cell? ⟨gb136, 0, none⟩ = some (.int .i64 ((rd_T35 l0_0 a1_0).f0)) := (qb1 BK136.out 0).trans rfl
           have hcz82_1 : wc.cell? ⟨gb136, 1, none⟩ = some (.int .i64 ((rd_T35 l0_0 a1_0).f1)) := (qb1 BK136.out 1).trans rfl
           have hcz82_2 : wc.cell? ⟨gb136, 2, none⟩ = some (.int .i64 ((rd_T35 l0_0 a1_0).f2)) := (qb1 BK136.out 2).trans rfl
           have hfz82_0 := qb2 BK136.out 0
           have hfz82_1 := qb2 BK136.out 1
           have hfz82_2 := qb2 BK136.out 2
           have hnb83 := NB137_132.out
           have hnc83 := NB132_137.out
           have hcz84_0 : wc.cell? ⟨gb137, 0, none⟩ = some (.int .i64 ((rd_T35 l0_0 a1_1).f0)) := (qb1 BK137.out 0).trans rfl
           have hcz84_1 : wc.cell? ⟨gb137, 1, none⟩ = some (.int .i64 ((rd_T35 l0_0 a1_1).f1)) := (qb1 BK137.out 1).trans rfl
           have hcz84_2 : wc.cell? ⟨gb137, 2, none⟩ = some (.int .i64 ((rd_T35 l0_0 a1_1).f2)) := (qb1 BK137.out 2).trans rfl
           have hfz84_0 := qb2 BK137.out 0
           have hfz84_1 := qb2 BK137.out 1
           have hfz84_2 := qb2 BK137.out 2
           go_wp2
           go_ret
           exact ⟨by first | rfl | (simp [errW_none, errW_some] <;> rfl) | (simp [*, errW_none, errW_some] <;> rfl), by repeat (first | (with_reducible first | exact HB.out | apply qw1 | apply qw2 | apply qw3 | refine qw4 ?_ GE132.out | refine qw4 ?_ GE133.out | refine qw4 ?_ GE136.out | refine qw4 ?_ GE137.out) | exact HB.out)⟩
          ·rw [if_neg c75] at H
           have c75b0 : (((rd_T35 l0_0 a1_0).f1) == 3) = false := beq_eq_false_iff_ne.mpr c75
           have c75b1 : (((rd_T35 l0_0 a1_0).f1) != 3) = true := bne_iff_ne.mpr c75
           by_cases c85 : ((rd_T35 l0_0 a1_0).f1) = 4
           ·rw [if_pos c85] at H
            have c85b0 : (((rd_T35 l0_0 a1_0).f1) == 4) = true := beq_iff_eq.mpr c85
            have c85b1 : (((rd_T35 l0_0 a1_0).f1) != 4) = false := bne_eq_false_iff_eq.mpr c85
            clear c85
            obtain rfl := Option.some.inj H
            have hnb86 := NB133_132.out
            have hnc86 := NB132_133.out
            have hnb87 := NB133_136.out
            have hnc87 := NB136_133.out
            have hnb88 := NB133_137.out
            have hnc88 := NB137_133.out
            have hcz89_0 : wc.cell? ⟨gb133, 0, none⟩ = some (.int .i64 a1_0) := (qb1 BK133.out 0).trans rfl
            have hcz89_1 : wc.cell? ⟨gb133, 1, none⟩ = some (.int .i64 a1_1) := (qb1 BK133.out 1).trans rfl
            have hcz89_2 : wc.cell? ⟨gb133, 2, none⟩ = some (.int .i64 a1_2) := (qb1 BK133.out 2).trans rfl
            have hcz89_3 : wc.cell? ⟨gb133, 3, none⟩ = some (.int .i64 a1_3) := (qb1 BK133.out 3).trans rfl
            have hfz89_0 := qb2 BK133.out 0
            have hfz89_1 := qb2 BK133.out 1
            have hfz89_2 := qb2 BK133.out 2
            have hfz89_3 := qb2 BK133.out 3
            have hnb90 := NB136_132.out
            have hnc90 := NB132_136.out
            have hnb91 := NB136_137.out
            have hnc91 := NB137_136.out
            have hcz92_0 : wc.cell? ⟨gb136, 0, none⟩ = some (.int .i64 ((rd_T35 l0_0 a1_0).f0)) := (qb1 BK136.out 0).trans rfl
            have hcz92_1 : wc.cell? ⟨gb136, 1, none⟩ = some (.int .i64 ((rd_T35 l0_0 a1_0).f1)) := (qb1 BK136.out 1).trans rfl
            have hcz92_2 : wc.cell? ⟨gb136, 2, none⟩ = some (.int .i64 ((rd_T35 l0_0 a1_0).f2)) := (qb1 BK136.out 2).trans rfl
            have hfz92_0 := qb2 BK136.out 0
            have hfz92_1 := qb2 BK136.out 1
            have hfz92_2 := qb2 BK136.out 2
            have hnb93 := NB137_132.out
            have hnc93 := NB132_137.out
            have hcz94_0 : wc.cell? ⟨gb137, 0, none⟩ = some (.int .i64 ((rd_T35 l0_0 a1_1).f0)) := (qb1 BK137.out 0).trans rfl
            have hcz94_1 : wc.cell? ⟨gb137, 1, none⟩ = some (.int .i64 ((rd_T35 l0_0 a1_1).f1)) := (qb1 BK137.out 1).trans rfl
            have hcz94_2 : wc.cell? ⟨gb137, 2, none⟩ = some (.int .i64 ((rd_T35 l0_0 a1_1).f2)) := (qb1 BK137.out 2).trans rfl
            have hfz94_0 := qb2 BK137.out 0
            have hfz94_1 := qb2 BK137.out 1
            have hfz94_2 := qb2 BK137.out 2
            go_wp2
            go_ret
            exact ⟨by first | rfl | (simp [errW_none, errW_some] <;> rfl) | (simp [*, errW_none, errW_some] <;> rfl), by repeat (first | (with_reducible first | exact HB.out | apply qw1 | apply qw2 | apply qw3 | refine qw4 ?_ GE132.out | refine qw4 ?_ GE133.out | refine qw4 ?_ GE136.out | refine qw4 ?_ GE137.out) | exact HB.out)⟩
           ·rw [if_neg c85] at H
            have c85b0 : (((rd_T35 l0_0 a1_0).f1) == 4) = false := beq_eq_false_iff_ne.mpr c85
            have c85b1 : (((rd_T35 l0_0 a1_0).f1) != 4) = true := bne_iff_ne.mpr c85
            obtain rfl := Option.some.inj H
            have hnb95 := NB133_132.out
            have hnc95 := NB132_133.out
            have hnb96 := NB133_136.out
            have hnc96 := NB136_133.out
            have hnb97 := NB133_137.out
            have hnc97 := NB137_133.out
            have hcz98_0 : wc.cell? ⟨gb133, 0, none⟩ = some (.int .i64 a1_0) := (qb1 BK133.out 0).trans rfl
            have hcz98_1 : wc.cell? ⟨gb133, 1, none⟩ = some (.int .i64 a1_1) := (qb1 BK133.out 1).trans rfl
            have hcz98_2 : wc.cell? ⟨gb133, 2, none⟩ = some (.int .i64 a1_2) := (qb1 BK133.out 2).trans rfl
            have hcz98_3 : wc.cell? ⟨gb133, 3, none⟩ = some (.int .i64 a1_3) := (qb1 BK133.out 3).trans rfl
            have hfz98_0 := qb2 BK133.out 0
            have hfz98_1 := qb2 BK133.out 1
            have hfz98_2 := qb2 BK133.out 2
            have hfz98_3 := qb2 BK133.out 3
            have hnb99 := NB136_132.out
            have hnc99 := NB132_136.out
            have hnb100 := NB136_137.out
            have hnc100 := NB137_136.out
            have hcz101_0 : wc.cell? ⟨gb136, 0, none⟩ = some (.int .i64 ((rd_T35 l0_0 a1_0).f0)) := (qb1 BK136.out 0).trans rfl
            have hcz101_1 : wc.cell? ⟨gb136, 1, none⟩ = some (.int .i64 ((rd_T35 l0_0 a1_0).f1)) := (qb1 BK136.out 1).trans rfl
            have hcz101_2 : wc.cell? ⟨gb136, 2, none⟩ = some (.int .i64 ((rd_T35 l0_0 a1_0).f2)) := (qb1 BK136.out 2).trans rfl
            have hfz101_0 := qb2 BK136.out 0
            have hfz101_1 := qb2 BK136.out 1
            have hfz101_2 := qb2 BK136.out 2
            have hnb102 := NB137_132.out
            have hnc102 := NB132_137.out
            have hcz103_0 : wc.cell? ⟨gb137, 0, none⟩ = some (.int .i64 ((rd_T35 l0_0 a1_1).f0)) := (qb1 BK137.out 0).trans rfl
            have hcz103_1 : wc.cell? ⟨gb137, 1, none⟩ = some (.int .i64 ((rd_T35 l0_0 a1_1).f1)) := (qb1 BK137.out 1).trans rfl
            have hcz103_2 : wc.cell? ⟨gb137, 2, none⟩ = some (.int .i64 ((rd_T35 l0_0 a1_1).f2)) := (qb1 BK137.out 2).trans rfl
            have hfz103_0 := qb2 BK137.out 0
            have hfz103_1 := qb2 BK137.out 1
            have hfz103_2 := qb2 BK137.out 2
            go_wp2
            go_ret
            exact ⟨by first | rfl | (simp [errW_none, errW_some] <;> rfl) | (simp [*, errW_none, errW_some] <;> rfl), by repeat (first | (with_reducible first | exact HB.out | apply qw1 | apply qw2 | apply qw3 | refine qw4 ?_ GE132.out | refine qw4 ?_ GE133.out | refine qw4 ?_ GE136.out | refine qw4 ?_ GE137.out) | exact HB.out)⟩
         ·rw [if_neg c74] at H
          have c74b0 : (((rd_T35 l0_0 a1_0).f0) == ((rd_T35 l0_0 a1_1).f0)) = false := beq_eq_false_iff_ne.mpr c74
          have c74b1 : (((rd_T35 l0_0 a1_0).f0) != ((rd_T35 l0_0 a1_1).f0)) = true := bne_iff_ne.mpr c74
          obtain rfl := Option.some.inj H
          have hnb104 := NB133_132.out
          have hnc104 := NB132_133.out
          have hnb105 := NB133_136.out
          have hnc105 := NB136_133.out
          have hnb106 := NB133_137.out
          have hnc106 := NB137_133.out
          have hcz107_0 : wc.cell? ⟨gb133, 0, none⟩ = some (.int .i64 a1_0) := (qb1 BK133.out 0).trans rfl
          have hcz107_1 : wc.cell? ⟨gb133, 1, none⟩ = some (.int .i64 a1_1) := (qb1 BK133.out 1).trans rfl
          have hcz107_2 : wc.cell? ⟨gb133, 2, none⟩ = some (.int .i64 a1_2) := (qb1 BK133.out 2).trans rfl
          have hcz107_3 : wc.cell? ⟨gb133, 3, none⟩ = some (.int .i64 a1_3) := (qb1 BK133.out 3).trans rfl
          have hfz107_0 := qb2 BK133.out 0
          have hfz107_1 := qb2 BK133.out 1
          have hfz107_2 := qb2 BK133.out 2
          have hfz107_3 := qb2 BK133.out 3
          have hnb108 := NB136_132.out
          have hnc108 := NB132_136.out
          have hnb109 := NB136_137.out
          have hnc109 := NB137_136.out
          have hcz110_0 : wc.cell? ⟨gb136, 0, none⟩ = some (.int .i64 ((rd_T35 l0_0 a1_0).f0)) := (qb1 BK136.out 0).trans rfl
          have hcz110_1 : wc.cell? ⟨gb136, 1, none⟩ = some (.int .i64 ((rd_T35 l0_0 a1_0).f1)) := (qb1 BK136.out 1).trans rfl
          have hcz110_2 : wc.cell? ⟨gb136, 2, none⟩ = some (.int .i64 ((rd_T35 l0_0 a1_0).f2)) := (qb1 BK136.out 2).trans rfl
          have hfz110_0 := qb2 BK136.out 0
          have hfz110_1 := qb2 BK136.out 1
          have hfz110_2 := qb2 BK136.out 2
          have hnb111 := NB137_132.out
          have hnc111 := NB132_137.out
          have hcz112_0 : wc.cell? ⟨gb137, 0, none⟩ = some (.int .i64 ((rd_T35 l0_0 a1_1).f0)) := (qb1 BK137.out 0).trans rfl
          have hcz112_1 : wc.cell? ⟨gb137, 1, none⟩ = some (.int .i64 ((rd_T35 l0_0 a1_1).f1)) := (qb1 BK137.out 1).trans rfl
          have hcz112_2 : wc.cell? ⟨gb137, 2, none⟩ = some (.int .i64 ((rd_T35 l0_0 a1_1).f2)) := (qb1 BK137.out 2).trans rfl
          have hfz112_0 := qb2 BK137.out 0
          have hfz112_1 := qb2 BK137.out 1
          have hfz112_2 := qb2 BK137.out 2
          go_wp2
          go_ret
          exact ⟨by first | rfl | (simp [errW_none, errW_some] <;> rfl) | (simp [*, errW_none, errW_some] <;> rfl), by repeat (first | (with_reducible first | exact HB.out | apply qw1 | apply qw2 | apply qw3 | refine qw4 ?_ GE132.out | refine qw4 ?_ GE133.out | refine qw4 ?_ GE136.out | refine qw4 ?_ GE137.out) | exact HB.out)⟩
       ·replace c25 := Bool.eq_false_iff.mpr c25
        subst c25
        have H1 : (if a1_2 = 2 then (if ((rd_T35 l0_0 a1_0).f1) = 2 then (if a1_3 = a1_0 then (some (((rd_T35 l0_0 a1_1).f1) == 1)) else (some false)) else (some false)) else (if a1_2 = 4 then (super_fits.j1 kj6 4 l0_0 l0_1 a0_2 a1_0 a1_1 a1_2 a1_3 ((rd_T35 l0_0 a1_0).f0) ((rd_T35 l0_0 a1_0).f1) ((rd_T35 l0_0 a1_0).f2) ((rd_T35 l0_0 a1_1).f0) ((rd_T35 l0_0 a1_1).f1) ((rd_T35 l0_0 a1_1).f2)) else (super_fits.j1 kj6 3 l0_0 l0_1 a0_2 a1_0 a1_1 a1_2 a1_3 ((rd_T35 l0_0 a1_0).f0) ((rd_T35 l0_0 a1_0).f1) ((rd_T35 l0_0 a1_0).f2) ((rd_T35 l0_0 a1_1).f0) ((rd_T35 l0_0 a1_1).f1) ((rd_T35 l0_0 a1_1).f2)))) = some r := by rw [if_neg (show ¬ (false = true) by decide)] at H; exact H
        clear H
        have H := H1
        clear H1
        by_cases c113 : a1_2 = 2
        ·rw [if_pos c113] at H
         have c113b0 : (a1_2 == 2) = true := beq_iff_eq.mpr c113
         have c113b1 : (a1_2 != 2) = false := bne_eq_false_iff_eq.mpr c113
         clear c113
         by_cases c114 : ((rd_T35 l0_0 a1_0).f1) = 2
         ·rw [if_pos c114] at H
          have c114b0 : (((rd_T35 l0_0 a1_0).f1) == 2) = true := beq_iff_eq.mpr c114
          have c114b1 : (((rd_T35 l0_0 a1_0).f1) != 2) = false := bne_eq_false_iff_eq.mpr c114
          clear c114
          by_cases c115 : a1_3 = a1_0
          ·rw [if_pos c115] at H
           have c115b0 : (a1_3 == a1_0) = true := beq_iff_eq.mpr c115
           have c115b1 : (a1_3 != a1_0) = false := bne_eq_false_iff_eq.mpr c115
           clear c115
           obtain rfl := Option.some.inj H
           have hnb116 := NB136_132.out
           have hnc116 := NB132_136.out
           have hnb117 := NB136_133.out
           have hnc117 := NB133_136.out
           have hnb118 := NB136_137.out
           have hnc118 := NB137_136.out
           have hcz119_0 : wc.cell? ⟨gb136, 0, none⟩ = some (.int .i64 ((rd_T35 l0_0 a1_0).f0)) := (qb1 BK136.out 0).trans rfl
           have hcz119_1 : wc.cell? ⟨gb136, 1, none⟩ = some (.int .i64 ((rd_T35 l0_0 a1_0).f1)) := (qb1 BK136.out 1).trans rfl
           have hcz119_2 : wc.cell? ⟨gb136, 2, none⟩ = some (.int .i64 ((rd_T35 l0_0 a1_0).f2)) := (qb1 BK136.out 2).trans rfl
           have hfz119_0 := qb2 BK136.out 0
           have hfz119_1 := qb2 BK136.out 1
           have hfz119_2 := qb2 BK136.out 2
           have hnb120 := NB133_132.out
           have hnc120 := NB132_133.out
           have hnb121 := NB133_137.out
           have hnc121 := NB137_133.out
           have hcz122_0 : wc.cell? ⟨gb133, 0, none⟩ = some (.int .i64 a1_0) := (qb1 BK133.out 0).trans rfl
           have hcz122_1 : wc.cell? ⟨gb133, 1, none⟩ = some (.int .i64 a1_1) := (qb1 BK133.out 1).trans rfl
           have hcz122_2 : wc.cell? ⟨gb133, 2, none⟩ = some (.int .i64 a1_2) := (qb1 BK133.out 2).trans rfl
           have hcz122_3 : wc.cell? ⟨gb133, 3, none⟩ = some (.int .i64 a1_3) := (qb1 BK133.out 3).trans rfl
           have hfz122_0 := qb2 BK133.out 0
           have hfz122_1 := qb2 BK133.out 1
           have hfz122_2 := qb2 BK133.out 2
           have hfz122_3 := qb2 BK133.out 3
           have hnb123 := NB137_132.out
           have hnc123 := NB132_137.out
           have hcz124_0 : wc.cell? ⟨gb137, 0, none⟩ = some (.int .i64 ((rd_T35 l0_0 a1_1).f0)) := (qb1 BK137.out 0).trans rfl
           have hcz124_1 : wc.cell? ⟨gb137, 1, none⟩ = some (.int .i64 ((rd_T35 l0_0 a1_1).f1)) := (qb1 BK137.out 1).trans rfl
           have hcz124_2 : wc.cell? ⟨gb137, 2, none⟩ = some (.int .i64 ((rd_T35 l0_0 a1_1).f2)) := (qb1 BK137.out 2).trans rfl
           have hfz124_0 := qb2 BK137.out 0
           have hfz124_1 := qb2 BK137.out 1
           have hfz124_2 := qb2 BK137.out 2
           go_wp2
           go_ret
           exact ⟨by first | rfl | (simp [errW_none, errW_some] <;> rfl) | (simp [*, errW_none, errW_some] <;> rfl), by repeat (first | (with_reducible first | exact HB.out | apply qw1 | apply qw2 | apply qw3 | refine qw4 ?_ GE132.out | refine qw4 ?_ GE133.out | refine qw4 ?_ GE136.out | refine qw4 ?_ GE137.out) | exact HB.out)⟩
          ·rw [if_neg c115] at H
           have c115b0 : (a1_3 == a1_0) = false := beq_eq_false_iff_ne.mpr c115
           have c115b1 : (a1_3 != a1_0) = true := bne_iff_ne.mpr c115
           obtain rfl := Option.some.inj H
           have hnb125 := NB136_132.out
           have hnc125 := NB132_136.out
           have hnb126 := NB136_133.out
           have hnc126 := NB133_136.out
           have hnb127 := NB136_137.out
           have hnc127 := NB137_136.out
           have hcz128_0 : wc.cell? ⟨gb136, 0, none⟩ = some (.int .i64 ((rd_T35 l0_0 a1_0).f0)) := (qb1 BK136.out 0).trans rfl
           have hcz128_1 : wc.cell? ⟨gb136, 1, none⟩ = some (.int .i64 ((rd_T35 l0_0 a1_0).f1)) := (qb1 BK136.out 1).trans rfl
           have hcz128_2 : wc.cell? ⟨gb136, 2, none⟩ = some (.int .i64 ((rd_T35 l0_0 a1_0).f2)) := (qb1 BK136.out 2).trans rfl
           have hfz128_0 := qb2 BK136.out 0
           have hfz128_1 := qb2 BK136.out 1
           have hfz128_2 := qb2 BK136.out 2
           have hnb129 := NB133_132.out
           have hnc129 := NB132_133.out
           have hnb130 := NB133_137.out
           have hnc130 := NB137_133.out
           have hcz131_0 : wc.cell? ⟨gb133, 0, none⟩ = some (.int .i64 a1_0) := (qb1 BK133.out 0).trans rfl
           have hcz131_1 : wc.cell? ⟨gb133, 1, none⟩ = some (.int .i64 a1_1) := (qb1 BK133.out 1).trans rfl
           have hcz131_2 : wc.cell? ⟨gb133, 2, none⟩ = some (.int .i64 a1_2) := (qb1 BK133.out 2).trans rfl
           have hcz131_3 : wc.cell? ⟨gb133, 3, none⟩ = some (.int .i64 a1_3) := (qb1 BK133.out 3).trans rfl
           have hfz131_0 := qb2 BK133.out 0
           have hfz131_1 := qb2 BK133.out 1
           have hfz131_2 := qb2 BK133.out 2
           have hfz131_3 := qb2 BK133.out 3
           go_wp2
           go_ret
           exact ⟨by first | rfl | (simp [errW_none, errW_some] <;> rfl) | (simp [*, errW_none, errW_some] <;> rfl), by repeat (first | (with_reducible first | exact HB.out | apply qw1 | apply qw2 | apply qw3 | refine qw4 ?_ GE132.out | refine qw4 ?_ GE133.out | refine qw4 ?_ GE136.out | refine qw4 ?_ GE137.out) | exact HB.out)⟩
         ·rw [if_neg c114] at H
          have c114b0 : (((rd_T35 l0_0 a1_0).f1) == 2) = false := beq_eq_false_iff_ne.mpr c114
          have c114b1 : (((rd_T35 l0_0 a1_0).f1) != 2) = true := bne_iff_ne.mpr c114
          obtain rfl := Option.some.inj H
          have hnb132 := NB136_132.out
          have hnc132 := NB132_136.out
          have hnb133 := NB136_133.out
          have hnc133 := NB133_136.out
          have hnb134 := NB136_137.out
          have hnc134 := NB137_136.out
          have hcz135_0 : wc.cell? ⟨gb136, 0, none⟩ = some (.int .i64 ((rd_T35 l0_0 a1_0).f0)) := (qb1 BK136.out 0).trans rfl
          have hcz135_1 : wc.cell? ⟨gb136, 1, none⟩ = some (.int .i64 ((rd_T35 l0_0 a1_0).f1)) := (qb1 BK136.out 1).trans rfl
          have hcz135_2 : wc.cell? ⟨gb136, 2, none⟩ = some (.int .i64 ((rd_T35 l0_0 a1_0).f2)) := (qb1 BK136.out 2).trans rfl
          have hfz135_0 := qb2 BK136.out 0
          have hfz135_1 := qb2 BK136.out 1
          have hfz135_2 := qb2 BK136.out 2
          go_wp2
          go_ret
          exact ⟨by first | rfl | (simp [errW_none, errW_some] <;> rfl) | (simp [*, errW_none, errW_some] <;> rfl), by repeat (first | (with_reducible first | exact HB.out | apply qw1 | apply qw2 | apply qw3 | refine qw4 ?_ GE132.out | refine qw4 ?_ GE133.out | refine qw4 ?_ GE136.out | refine qw4 ?_ GE137.out) | exact HB.out)⟩
        ·rw [if_neg c113] at H
         have c113b0 : (a1_2 == 2) = false := beq_eq_false_iff_ne.mpr c113
         have c113b1 : (a1_2 != 2) = true := bne_iff_ne.mpr c113
         have HC136 := qam H
         clear H
         have hnb137 := NB133_132.out
         have hnc137 := NB132_133.out
         have hnb138 := NB133_136.out
         have hnc138 := NB136_133.out
         have hnb139 := NB133_137.out
         have hnc139 := NB137_133.out
         have hcz140_0 : wc.cell? ⟨gb133, 0, none⟩ = some (.int .i64 a1_0) := (qb1 BK133.out 0).trans rfl
         have hcz140_1 : wc.cell? ⟨gb133, 1, none⟩ = some (.int .i64 a1_1) := (qb1 BK133.out 1).trans rfl
         have hcz140_2 : wc.cell? ⟨gb133, 2, none⟩ = some (.int .i64 a1_2) := (qb1 BK133.out 2).trans rfl
         have hcz140_3 : wc.cell? ⟨gb133, 3, none⟩ = some (.int .i64 a1_3) := (qb1 BK133.out 3).trans rfl
         have hfz140_0 := qb2 BK133.out 0
         have hfz140_1 := qb2 BK133.out 1
         have hfz140_2 := qb2 BK133.out 2
         have hfz140_3 := qb2 BK133.out 3
         go_upto_if 73 with (fail)
         go_cut [7] (fun v7 wc => ∃ (kq : Nat) (x7_135 : Int), v7 = .int .i64 x7_135 ∧ Aside0 (super_fits.j1 kq x7_135 l0_0 l0_1 a0_2 a1_0 a1_1 a1_2 a1_3 ((rd_T35 l0_0 a1_0).f0) ((rd_T35 l0_0 a1_0).f1) ((rd_T35 l0_0 a1_0).f2) ((rd_T35 l0_0 a1_1).f0) ((rd_T35 l0_0 a1_1).f1) ((rd_T35 l0_0 a1_1).f2) = some r) ∧ Aside0 (kq ≤ kj6) ∧ Aside0 (wc.heap[gb132]? = some (.cells #[(.slice (some ad134) l0_0.length c0_0), (.slice A0_1 l0_1.length c0_1), .int .i64 a0_2] 25 (0, 0))) ∧ Aside0 (wc.heap[gb133]? = some (.cells #[.int .i64 a1_0, .int .i64 a1_1, .int .i64 a1_2, .int .i64 a1_3] 32 (0, 0))) ∧ Aside0 (wc.heap[gb136]? = some (.cells #[.int .i64 ((rd_T35 l0_0 a1_0).f0), .int .i64 ((rd_T35 l0_0 a1_0).f1), .int .i64 ((rd_T35 l0_0 a1_0).f2)] 35 (0, 0))) ∧ Aside0 (wc.heap[gb137]? = some (.cells #[.int .i64 ((rd_T35 l0_0 a1_1).f0), .int .i64 ((rd_T35 l0_0 a1_1).f1), .int .i64 ((rd_T35 l0_0 a1_1).f2)] 35 (0, 0))) ∧ Aside0 (Below w.heap.size w wc))
         case first =>
          have H := HC136.out
          clear HC136
          by_cases c141 : a1_2 = 4
          ·rw [if_pos c141] at H
           have c141b0 : (a1_2 == 4) = true := beq_iff_eq.mpr c141
           have c141b1 : (a1_2 != 4) = false := bne_eq_false_iff_eq.mpr c141
           clear c141
           (first | rw [c141b0] | (simp only [i64_w, i32_w]; rw [c141b0]) | skip)
           have H' := qam H
           clear H
           go_wp2
           go_meet
           case rel => exact ⟨_, (4), (by first | rfl | (simp; done) | (simp [*]; done)), H', ⟨by have := HJ6.out; first | omega | exact Nat.le_refl _⟩, ⟨by (with_reducible repeat (first | refine qb3 ?_ _ | refine qb5 ?_ | refine qb4 ?_ _)); exact BK132.out⟩, ⟨by (with_reducible repeat (first | refine qb3 ?_ _ | refine qb5 ?_ | refine qb4 ?_ _)); exact BK133.out⟩, ⟨by (with_reducible repeat (first | refine qb3 ?_ _ | refine qb5 ?_ | refine qb4 ?_ _)); exact BK136.out⟩, ⟨by (with_reducible repeat (first | refine qb3 ?_ _ | refine qb5 ?_ | refine qb4 ?_ _)); exact BK137.out⟩, ⟨by repeat (first | (with_reducible first | exact HB.out | apply qw1 | apply qw2 | apply qw3 | refine qw4 ?_ GE132.out | refine qw4 ?_ GE133.out | refine qw4 ?_ GE136.out | refine qw4 ?_ GE137.out) | exact HB.out)⟩⟩
          ·rw [if_neg c141] at H
           have c141b0 : (a1_2 == 4) = false := beq_eq_false_iff_ne.mpr c141
           have c141b1 : (a1_2 != 4) = true := bne_iff_ne.mpr c141
           (first | rw [c141b0] | (simp only [i64_w, i32_w]; rw [c141b0]) | skip)
           have H' := qam H
           clear H
           go_wp2
           go_meet
           case rel => exact ⟨_, (3), (by first | rfl | (simp; done) | (simp [*]; done)), H', ⟨by have := HJ6.out; first | omega | exact Nat.le_refl _⟩, ⟨by (with_reducible repeat (first | refine qb3 ?_ _ | refine qb5 ?_ | refine qb4 ?_ _)); exact BK132.out⟩, ⟨by (with_reducible repeat (first | refine qb3 ?_ _ | refine qb5 ?_ | refine qb4 ?_ _)); exact BK133.out⟩, ⟨by (with_reducible repeat (first | refine qb3 ?_ _ | refine qb5 ?_ | refine qb4 ?_ _)); exact BK136.out⟩, ⟨by (with_reducible repeat (first | refine qb3 ?_ _ | refine qb5 ?_ | refine qb4 ?_ _)); exact BK137.out⟩, ⟨by repeat (first | (with_reducible first | exact HB.out | apply qw1 | apply qw2 | apply qw3 | refine qw4 ?_ GE132.out | refine qw4 ?_ GE133.out | refine qw4 ?_ GE136.out | refine qw4 ?_ GE137.out) | exact HB.out)⟩⟩
         case rest =>
          clear HC136
          try clear c1
          try clear p1
          try clear q1
          try clear hx1
          try clear c2
          try clear p2
          try clear c3
          try clear c3b0
          try clear c4
          try clear c4b0
          try clear c5
          try clear c5b0
          try clear c6
          try clear c6b0
          try clear c7
          try clear c8
          try clear c9
          try clear c10
          try clear c11
          try clear c12
          try clear c13
          try clear p13
          try clear q13
          try clear hx13
          try clear c14
          try clear c15
          try clear c20
          try clear c21
          try clear c22
          try clear c24
          try clear c24b0
          try clear c24b1
          try clear c25
          try clear c26
          try clear c26b0
          try clear c26b1
          try clear c27
          try clear c27b0
          try clear c27b1
          try clear c28
          try clear c28b0
          try clear c28b1
          try clear c29
          try clear c29b0
          try clear c29b1
          try clear c30
          try clear c31
          try clear c32
          try clear c34
          try clear c35
          try clear c37
          try clear c39
          try clear c39b0
          try clear c39b1
          try clear c40
          try clear c41
          try clear c42
          try clear c44
          try clear c45
          try clear c47
          try clear c49
          try clear c50
          try clear c51
          try clear c53
          try clear c54
          try clear c56
          try clear c58
          try clear c59
          try clear c60
          try clear c62
          try clear c63
          try clear c65
          try clear c67
          try clear c68
          try clear c69
          try clear c71
          try clear c72
          try clear c74
          try clear c74b0
          try clear c74b1
          try clear c75
          try clear c75b0
          try clear c75b1
          try clear c76
          try clear c77
          try clear c78
          try clear c80
          try clear c81
          try clear c83
          try clear c85
          try clear c85b0
          try clear c85b1
          try clear c86
          try clear c87
          try clear c88
          try clear c90
          try clear c91
          try clear c93
          try clear c95
          try clear c96
          try clear c97
          try clear c99
          try clear c100
          try clear c102
          try clear c104
          try clear c105
          try clear c106
          try clear c108
          try clear c109
          try clear c111
          try clear c113
          try clear c113b0
          try clear c113b1
          try clear c114
          try clear c114b0
          try clear c114b1
          try clear c115
          try clear c115b0
          try clear c115b1
          try clear c116
          try clear c117
          try clear c118
          try clear c120
          try clear c121
          try clear c123
          try clear c125
          try clear c126
          try clear c127
          try clear c129
          try clear c130
          try clear c132
          try clear c133
          try clear c134
          try clear p134
          try clear q134
          try clear hx134
          try clear p135
          try clear q135
          try clear hx135
          try clear c137
          try clear c138
          try clear c139
          try clear c141
          try clear c141b0
          try clear c141b1
          try clear hcz101_0
          try clear hcz101_1
          try clear hcz101_2
          try clear hcz103_0
          try clear hcz103_1
          try clear hcz103_2
          try clear hcz107_0
          try clear hcz107_1
          try clear hcz107_2
          try clear hcz107_3
          try clear hcz110_0
          try clear hcz110_1
          try clear hcz110_2
          try clear hcz112_0
          try clear hcz112_1
          try clear hcz112_2
          try clear hcz119_0
          try clear hcz119_1
          try clear hcz119_2
          try clear hcz122_0
          try clear hcz122_1
          try clear hcz122_2
          try clear hcz122_3
          try clear hcz124_0
          try clear hcz124_1
          try clear hcz124_2
          try clear hcz128_0
          try clear hcz128_1
          try clear hcz128_2
          try clear hcz131_0
          try clear hcz131_1
          try clear hcz131_2
          try clear hcz131_3
          try clear hcz135_0
          try clear hcz135_1
          try clear hcz135_2
          try clear hcz140_0
          try clear hcz140_1
          try clear hcz140_2
          try clear hcz140_3
          try clear hcz23_0
          try clear hcz23_1
          try clear hcz23_2
          try clear hcz23_3
          try clear hcz33_0
          try clear hcz33_1
          try clear hcz33_2
          try clear hcz33_3
          try clear hcz36_0
          try clear hcz36_1
          try clear hcz36_2
          try clear hcz38_0
          try clear hcz38_1
          try clear hcz38_2
          try clear hcz43_0
          try clear hcz43_1
          try clear hcz43_2
          try clear hcz43_3
          try clear hcz46_0
          try clear hcz46_1
          try clear hcz46_2
          try clear hcz48_0
          try clear hcz48_1
          try clear hcz48_2
          try clear hcz52_0
          try clear hcz52_1
          try clear hcz52_2
          try clear hcz52_3
          try clear hcz55_0
          try clear hcz55_1
          try clear hcz55_2
          try clear hcz57_0
          try clear hcz57_1
          try clear hcz57_2
          try clear hcz61_0
          try clear hcz61_1
          try clear hcz61_2
          try clear hcz61_3
          try clear hcz64_0
          try clear hcz64_1
          try clear hcz64_2
          try clear hcz66_0
          try clear hcz66_1
          try clear hcz66_2
          try clear hcz70_0
          try clear hcz70_1
          try clear hcz70_2
          try clear hcz70_3
          try clear hcz73_0
          try clear hcz73_1
          try clear hcz73_2
          try clear hcz79_0
          try clear hcz79_1
          try clear hcz79_2
          try clear hcz79_3
          try clear hcz82_0
          try clear hcz82_1
          try clear hcz82_2
          try clear hcz84_0
          try clear hcz84_1
          try clear hcz84_2
          try clear hcz89_0
          try clear hcz89_1
          try clear hcz89_2
          try clear hcz89_3
          try clear hcz92_0
          try clear hcz92_1
          try clear hcz92_2
          try clear hcz94_0
          try clear hcz94_1
          try clear hcz94_2
          try clear hcz98_0
          try clear hcz98_1
          try clear hcz98_2
          try clear hcz98_3
          try clear hfz101_0
          try clear hfz101_1
          try clear hfz101_2
          try clear hfz103_0
          try clear hfz103_1
          try clear hfz103_2
          try clear hfz107_0
          try clear hfz107_1
          try clear hfz107_2
          try clear hfz107_3
          try clear hfz110_0
          try clear hfz110_1
          try clear hfz110_2
          try clear hfz112_0
          try clear hfz112_1
          try clear hfz112_2
          try clear hfz119_0
          try clear hfz119_1
          try clear hfz119_2
          try clear hfz122_0
          try clear hfz122_1
          try clear hfz122_2
          try clear hfz122_3
          try clear hfz124_0
          try clear hfz124_1
          try clear hfz124_2
          try clear hfz128_0
          try clear hfz128_1
          try clear hfz128_2
          try clear hfz131_0
          try clear hfz131_1
          try clear hfz131_2
          try clear hfz131_3
          try clear hfz135_0
          try clear hfz135_1
          try clear hfz135_2
          try clear hfz140_0
          try clear hfz140_1
          try clear hfz140_2
          try clear hfz140_3
          try clear hfz23_0
          try clear hfz23_1
          try clear hfz23_2
          try clear hfz23_3
          try clear hfz33_0
          try clear hfz33_1
          try clear hfz33_2
          try clear hfz33_3
          try clear hfz36_0
          try clear hfz36_1
          try clear hfz36_2
          try clear hfz38_0
          try clear hfz38_1
          try clear hfz38_2
          try clear hfz43_0
          try clear hfz43_1
          try clear hfz43_2
          try clear hfz43_3
          try clear hfz46_0
          try clear hfz46_1
          try clear hfz46_2
          try clear hfz48_0
          try clear hfz48_1
          try clear hfz48_2
          try clear hfz52_0
          try clear hfz52_1
          try clear hfz52_2
          try clear hfz52_3
          try clear hfz55_0
          try clear hfz55_1
          try clear hfz55_2
          try clear hfz57_0
          try clear hfz57_1
          try clear hfz57_2
          try clear hfz61_0
          try clear hfz61_1
          try clear hfz61_2
          try clear hfz61_3
          try clear hfz64_0
          try clear hfz64_1
          try clear hfz64_2
          try clear hfz66_0
          try clear hfz66_1
          try clear hfz66_2
          try clear hfz70_0
          try clear hfz70_1
          try clear hfz70_2
          try clear hfz70_3
          try clear hfz73_0
          try clear hfz73_1
          try clear hfz73_2
          try clear hfz79_0
          try clear hfz79_1
          try clear hfz79_2
          try clear hfz79_3
          try clear hfz82_0
          try clear hfz82_1
          try clear hfz82_2
          try clear hfz84_0
          try clear hfz84_1
          try clear hfz84_2
          try clear hfz89_0
          try clear hfz89_1
          try clear hfz89_2
          try clear hfz89_3
          try clear hfz92_0
          try clear hfz92_1
          try clear hfz92_2
          try clear hfz94_0
          try clear hfz94_1
          try clear hfz94_2
          try clear hfz98_0
          try clear hfz98_1
          try clear hfz98_2
          try clear hfz98_3
          try clear hx134_0
          try clear hx134_1
          try clear hx134_2
          try clear hx135_0
          try clear hx135_1
          try clear hx135_2
          try clear p1
          try clear p13
          try clear p134
          try clear p135
          try clear p2
          try clear q1
          try clear q13
          try clear q134
          try clear q135
          obtain ⟨kq, x7_135, rfl, HA, HJ135, BK132, BK133, BK136, BK137, HB⟩ := hcut
          cases kq with
          | zero => exact absurd HA.out (by simp [super_fits.j1])
          | succ kj135 =>
           have H := HA.out
           clear HA
           simp only [super_fits.j1] at H
           by_cases c142 : 0 ≤ a1_3
           ·rw [if_pos c142] at H
            have c142b0 : decide (0 ≤ a1_3) = true := decide_eq_true c142
            clear c142
            by_cases c143 : a1_3 < (l0_0.length : Int)
            ·rw [if_pos c143] at H
             have c143b0 : decide (a1_3 < (l0_0.length : Int)) = true := decide_eq_true c143
             clear c143
             by_cases c144 : ((rd_T35 l0_0 a1_0).f1) = x7_135
             ·rw [if_pos c144] at H
              have c144b0 : (((rd_T35 l0_0 a1_0).f1) == x7_135) = true := beq_iff_eq.mpr c144
              have c144b1 : (((rd_T35 l0_0 a1_0).f1) != x7_135) = false := bne_eq_false_iff_eq.mpr c144
              clear c144
              by_cases c145 : ((rd_T35 l0_0 a1_3).f1) = 2
              ·rw [if_pos c145] at H
               have c145b0 : (((rd_T35 l0_0 a1_3).f1) == 2) = true := beq_iff_eq.mpr c145
               have c145b1 : (((rd_T35 l0_0 a1_3).f1) != 2) = false := bne_eq_false_iff_eq.mpr c145
               clear c145
               by_cases c146 : ((rd_T35 l0_0 a1_1).f0) = ((rd_T35 l0_0 a1_3).f0)
               ·rw [if_pos c146] at H
                have c146b0 : (((rd_T35 l0_0 a1_1).f0) == ((rd_T35 l0_0 a1_3).f0)) = true := beq_iff_eq.mpr c146
                have c146b1 : (((rd_T35 l0_0 a1_1).f0) != ((rd_T35 l0_0 a1_3).f0)) = false := bne_eq_false_iff_eq.mpr c146
                clear c146
                by_cases c147 : ((rd_T35 l0_0 a1_1).f1) = 1
                ·rw [if_pos c147] at H
                 have c147b0 : (((rd_T35 l0_0 a1_1).f1) == 1) = true := beq_iff_eq.mpr c147
                 have c147b1 : (((rd_T35 l0_0 a1_1).f1) != 1) = false := bne_eq_false_iff_eq.mpr c147
                 clear c147
                 obtain rfl := Option.some.inj H
                 have hnb148 := NB132_133.out
                 have hnc148 := NB133_132.out
                 have hnb149 := NB132_136.out
                 have hnc149 := NB136_132.out
                 have hnb150 := NB132_137.out
                 have hnc150 := NB137_132.out
                 have hcz151_0 : wc.cell? ⟨gb132, 0, none⟩ = some (.slice (some ad134) l0_0.length c0_0) := (qb1 BK132.out 0).trans rfl
                 have hcz151_1 : wc.cell? ⟨gb132, 1, none⟩ = some (.slice A0_1 l0_1.length c0_1) := (qb1 BK132.out 1).trans rfl
                 have hcz151_2 : wc.cell? ⟨gb132, 2, none⟩ = some (.int .i64 a0_2) := (qb1 BK132.out 2).trans rfl
                 have hfz151_0 := qb2 BK132.out 0
                 have hfz151_1 := qb2 BK132.out 1
                 have hfz151_2 := qb2 BK132.out 2
                 have hnb152 := NB133_136.out
                 have hnc152 := NB136_133.out
                 have hnb153 := NB133_137.out
                 have hnc153 := NB137_133.out
                 have hcz154_0 : wc.cell? ⟨gb133, 0, none⟩ = some (.int .i64 a1_0) := (qb1 BK133.out 0).trans rfl
                 have hcz154_1 : wc.cell? ⟨gb133, 1, none⟩ = some (.int .i64 a1_1) := (qb1 BK133.out 1).trans rfl
                 have hcz154_2 : wc.cell? ⟨gb133, 2, none⟩ = some (.int .i64 a1_2) := (qb1 BK133.out 2).trans rfl
                 have hcz154_3 : wc.cell? ⟨gb133, 3, none⟩ = some (.int .i64 a1_3) := (qb1 BK133.out 3).trans rfl
                 have hfz154_0 := qb2 BK133.out 0
                 have hfz154_1 := qb2 BK133.out 1
                 have hfz154_2 := qb2 BK133.out 2
                 have hfz154_3 := qb2 BK133.out 3
                 have p138 : 0 ≤ (a1_3 : Int) := of_decide_eq_true (by first | (with_reducible assumption) | assumption)
                 have q138 : a1_3 < (l0_0.length : Int) := of_decide_eq_true (by first | (with_reducible assumption) | assumption)
                 obtain ⟨ad138, e138, hx138_0, hx138_1, hx138_2⟩ := at_T35 HR0_0.out a1_3 p138 q138
                 obtain rfl : ad134 = ad138 := (by injection e138)
                 replace hx138_0 := (HB.out.cell (qbl w _ hx138_0)).trans hx138_0
                 replace hx138_1 := (HB.out.cell (qbl w _ hx138_1)).trans hx138_1
                 replace hx138_2 := (HB.out.cell (qbl w _ hx138_2)).trans hx138_2
                 replace p138 := eq_true p138
                 replace q138 := eq_true q138
                 go_wp2_with (first | ((with_reducible refine gate_dst (N := 8) rfl ?_); refine box_event ?hg (N := 8) ?hd (cs := #[.int .i64 0, .int .i64 0, .int .i64 0]) (t := 35) ?hr ?_; (case hd => rfl); (case hg => rfl); (case hr => first | (go_simp; done) | (go_simp; rfl)); intro gb139 hg w155 hbox hb; have n0_ := qam (blk_below (g := gb132) (o := .cells #[.slice (some ad134) l0_0.length c0_0, .slice A0_1 l0_1.length c0_1, .int .i64 a0_2] 25 (0, 0)) (by (with_reducible repeat (first | refine qb3 ?_ _ | refine qb5 ?_ | refine qb4 ?_ _)); exact BK132.out) hb); have n1_ := qam (blk_below (g := gb133) (o := .cells #[.int .i64 a1_0, .int .i64 a1_1, .int .i64 a1_2, .int .i64 a1_3] 32 (0, 0)) (by (with_reducible repeat (first | refine qb3 ?_ _ | refine qb5 ?_ | refine qb4 ?_ _)); exact BK133.out) hb); have n2_ := qam (blk_below (g := gb136) (o := .cells #[.int .i64 ((rd_T35 l0_0 a1_0).f0), .int .i64 ((rd_T35 l0_0 a1_0).f1), .int .i64 ((rd_T35 l0_0 a1_0).f2)] 35 (0, 0)) (by (with_reducible repeat (first | refine qb3 ?_ _ | refine qb5 ?_ | refine qb4 ?_ _)); exact BK136.out) hb); have n3_ := qam (blk_below (g := gb137) (o := .cells #[.int .i64 ((rd_T35 l0_0 a1_1).f0), .int .i64 ((rd_T35 l0_0 a1_1).f1), .int .i64 ((rd_T35 l0_0 a1_1).f2)] 35 (0, 0)) (by (with_reducible repeat (first | refine qb3 ?_ _ | refine qb5 ?_ | refine qb4 ?_ _)); exact BK137.out) hb); have n4_ := qam (qw6 (by repeat (first | (with_reducible first | exact HB.out | apply qw1 | apply qw2 | apply qw3 | refine qw4 ?_ GE132.out | refine qw4 ?_ GE133.out | refine qw4 ?_ GE136.out | refine qw4 ?_ GE137.out) | exact HB.out)) hb); have n5_ := qam (hbox); have n6_ := qam ((by rw [hg]; exact (qw5 (by repeat (first | (with_reducible first | exact HB.out | apply qw1 | apply qw2 | apply qw3 | refine qw4 ?_ GE132.out | refine qw4 ?_ GE133.out | refine qw4 ?_ GE136.out | refine qw4 ?_ GE137.out) | exact HB.out))) : w.heap.size ≤ gb139)); have n7_ := qam ((by rw [hg]; exact (qw5 (by repeat (first | (with_reducible first | exact HB.out | apply qw1 | apply qw2 | apply qw3 | refine qw4 ?_ GE132.out | refine qw4 ?_ GE133.out | refine qw4 ?_ GE136.out | refine qw4 ?_ GE137.out) | exact HB.out))) : w.heap.size ≤ gb139)); have n8_ := qam ((by rw [hg]; exact qnn (blk_lt (g := gb132) (o := .cells #[.slice (some ad134) l0_0.length c0_0, .slice A0_1 l0_1.length c0_1, .int .i64 a0_2] 25 (0, 0)) (by (with_reducible repeat (first | refine qb3 ?_ _ | refine qb5 ?_ | refine qb4 ?_ _)); exact BK132.out)) : gb132 ≠ gb139)); have n9_ := qam ((by rw [hg]; exact Nat.ne_of_gt (blk_lt (g := gb132) (o := .cells #[.slice (some ad134) l0_0.length c0_0, .slice A0_1 l0_1.length c0_1, .int .i64 a0_2] 25 (0, 0)) (by (with_reducible repeat (first | refine qb3 ?_ _ | refine qb5 ?_ | refine qb4 ?_ _)); exact BK132.out)) : gb139 ≠ gb132)); have n10_ := qam ((by rw [hg]; exact qnn (blk_lt (g := gb133) (o := .cells #[.int .i64 a1_0, .int .i64 a1_1, .int .i64 a1_2, .int .i64 a1_3] 32 (0, 0)) (by (with_reducible repeat (first | refine qb3 ?_ _ | refine qb5 ?_ | refine qb4 ?_ _)); exact BK133.out)) : gb133 ≠ gb139)); have n11_ := qam ((by rw [hg]; exact Nat.ne_of_gt (blk_lt (g := gb133) (o := .cells #[.int .i64 a1_0, .int .i64 a1_1, .int .i64 a1_2, .int .i64 a1_3] 32 (0, 0)) (by (with_reducible repeat (first | refine qb3 ?_ _ | refine qb5 ?_ | refine qb4 ?_ _)); exact BK133.out)) : gb139 ≠ gb133)); have n12_ := qam ((by rw [hg]; exact qnn (blk_lt (g := gb136) (o := .cells #[.int .i64 ((rd_T35 l0_0 a1_0).f0), .int .i64 ((rd_T35 l0_0 a1_0).f1), .int .i64 ((rd_T35 l0_0 a1_0).f2)] 35 (0, 0)) (by (with_reducible repeat (first | refine qb3 ?_ _ | refine qb5 ?_ | refine qb4 ?_ _)); exact BK136.out)) : gb136 ≠ gb139)); have n13_ := qam ((by rw [hg]; exact Nat.ne_of_gt (blk_lt (g := gb136) (o := .cells #[.int .i64 ((rd_T35 l0_0 a1_0).f0), .int .i64 ((rd_T35 l0_0 a1_0).f1), .int .i64 ((rd_T35 l0_0 a1_0).f2)] 35 (0, 0)) (by (with_reducible repeat (first | refine qb3 ?_ _ | refine qb5 ?_ | refine qb4 ?_ _)); exact BK136.out)) : gb139 ≠ gb136)); have n14_ := qam ((by rw [hg]; exact qnn (blk_lt (g := gb137) (o := .cells #[.int .i64 ((rd_T35 l0_0 a1_1).f0), .int .i64 ((rd_T35 l0_0 a1_1).f1), .int .i64 ((rd_T35 l0_0 a1_1).f2)] 35 (0, 0)) (by (with_reducible repeat (first | refine qb3 ?_ _ | refine qb5 ?_ | refine qb4 ?_ _)); exact BK137.out)) : gb137 ≠ gb139)); have n15_ := qam ((by rw [hg]; exact Nat.ne_of_gt (blk_lt (g := gb137) (o := .cells #[.int .i64 ((rd_T35 l0_0 a1_1).f0), .int .i64 ((rd_T35 l0_0 a1_1).f1), .int .i64 ((rd_T35 l0_0 a1_1).f2)] 35 (0, 0)) (by (with_reducible repeat (first | refine qb3 ?_ _ | refine qb5 ?_ | refine qb4 ?_ _)); exact BK137.out)) : gb139 ≠ gb137)); clear BK132; clear BK133; clear BK136; clear BK137; clear HB; have BK132 := n0_; have BK133 := n1_; have BK136 := n2_; have BK137 := n3_; have HB := n4_; have BK139 := n5_; have GW139 := n6_; have GE139 := n7_; have NB132_139 := n8_; have NB139_132 := n9_; have NB133_139 := n10_; have NB139_133 := n11_; have NB136_139 := n12_; have NB139_136 := n13_; have NB137_139 := n14_; have NB139_137 := n15_; clear n0_ n1_ n2_ n3_ n4_ n5_ n6_ n7_ n8_ n9_ n10_ n11_ n12_ n13_ n14_ n15_; clear hb hbox hg; have hnb156 := NB139_132.out; have hnc156 := NB132_139.out; have hnb157 := NB139_133.out; have hnc157 := NB133_139.out; have hnb158 := NB139_136.out; have hnc158 := NB136_139.out; have hnb159 := NB139_137.out; have hnc159 := NB137_139.out; have hcz160_0 : w155.cell? ⟨gb139, 0, none⟩ = some (.int .i64 0) := (qb1 BK139.out 0).trans rfl; have hcz160_1 : w155.cell? ⟨gb139, 1, none⟩ = some (.int .i64 0) := (qb1 BK139.out 1).trans rfl; have hcz160_2 : w155.cell? ⟨gb139, 2, none⟩ = some (.int .i64 0) := (qb1 BK139.out 2).trans rfl; have hfz160_0 := qb2 BK139.out 0; have hfz160_1 := qb2 BK139.out 1; have hfz160_2 := qb2 BK139.out 2; have hnb161 := NB136_137.out; have hnc161 := NB137_136.out; have hcz162_0 : w155.cell? ⟨gb136, 0, none⟩ = some (.int .i64 ((rd_T35 l0_0 a1_0).f0)) := (qb1 BK136.out 0).trans rfl; have hcz162_1 : w155.cell? ⟨gb136, 1, none⟩ = some (.int .i64 ((rd_T35 l0_0 a1_0).f1)) := (qb1 BK136.out 1).trans rfl; have hcz162_2 : w155.cell? ⟨gb136, 2, none⟩ = some (.int .i64 ((rd_T35 l0_0 a1_0).f2)) := (qb1 BK136.out 2).trans rfl; have hfz162_0 := qb2 BK136.out 0; have hfz162_1 := qb2 BK136.out 1; have hfz162_2 := qb2 BK136.out 2; have hcz163_0 : w155.cell? ⟨gb137, 0, none⟩ = some (.int .i64 ((rd_T35 l0_0 a1_1).f0)) := (qb1 BK137.out 0).trans rfl; have hcz163_1 : w155.cell? ⟨gb137, 1, none⟩ = some (.int .i64 ((rd_T35 l0_0 a1_1).f1)) := (qb1 BK137.out 1).trans rfl; have hcz163_2 : w155.cell? ⟨gb137, 2, none⟩ = some (.int .i64 ((rd_T35 l0_0 a1_1).f2)) := (qb1 BK137.out 2).trans rfl; have hfz163_0 := qb2 BK137.out 0; have hfz163_1 := qb2 BK137.out 1; have hfz163_2 := qb2 BK137.out 2))
                 go_ret
                 exact ⟨by first | rfl | (simp [errW_none, errW_some] <;> rfl) | (simp [*, errW_none, errW_some] <;> rfl), by repeat (first | (with_reducible first | exact HB.out | apply qw1 | apply qw2 | apply qw3 | refine qw4 ?_ GE132.out | refine qw4 ?_ GE133.out | refine qw4 ?_ GE136.out | refine qw4 ?_ GE137.out | refine qw4 ?_ GE139.out) | exact HB.out)⟩
                ·rw [if_neg c147] at H
                 have c147b0 : (((rd_T35 l0_0 a1_1).f1) == 1) = false := beq_eq_false_iff_ne.mpr c147
                 have c147b1 : (((rd_T35 l0_0 a1_1).f1) != 1) = true := bne_iff_ne.mpr c147
                 replace H := Option.bind_eq_some_iff.mp H
                 obtain ⟨t140, A1640, H⟩ := H
                 replace H : (some t140) = some r := H
                 have A164 := qam A1640
                 clear A1640
                 obtain rfl := Option.some.inj H
                 have hnb165 := NB132_133.out
                 have hnc165 := NB133_132.out
                 have hnb166 := NB132_136.out
                 have hnc166 := NB136_132.out
                 have hnb167 := NB132_137.out
                 have hnc167 := NB137_132.out
                 have hcz168_0 : wc.cell? ⟨gb132, 0, none⟩ = some (.slice (some ad134) l0_0.length c0_0) := (qb1 BK132.out 0).trans rfl
                 have hcz168_1 : wc.cell? ⟨gb132, 1, none⟩ = some (.slice A0_1 l0_1.length c0_1) := (qb1 BK132.out 1).trans rfl
                 have hcz168_2 : wc.cell? ⟨gb132, 2, none⟩ = some (.int .i64 a0_2) := (qb1 BK132.out 2).trans rfl
                 have hfz168_0 := qb2 BK132.out 0
                 have hfz168_1 := qb2 BK132.out 1
                 have hfz168_2 := qb2 BK132.out 2
                 have hnb169 := NB133_136.out
                 have hnc169 := NB136_133.out
                 have hnb170 := NB133_137.out
                 have hnc170 := NB137_133.out
                 have hcz171_0 : wc.cell? ⟨gb133, 0, none⟩ = some (.int .i64 a1_0) := (qb1 BK133.out 0).trans rfl
                 have hcz171_1 : wc.cell? ⟨gb133, 1, none⟩ = some (.int .i64 a1_1) := (qb1 BK133.out 1).trans rfl
                 have hcz171_2 : wc.cell? ⟨gb133, 2, none⟩ = some (.int .i64 a1_2) := (qb1 BK133.out 2).trans rfl
                 have hcz171_3 : wc.cell? ⟨gb133, 3, none⟩ = some (.int .i64 a1_3) := (qb1 BK133.out 3).trans rfl
                 have hfz171_0 := qb2 BK133.out 0
                 have hfz171_1 := qb2 BK133.out 1
                 have hfz171_2 := qb2 BK133.out 2
                 have hfz171_3 := qb2 BK133.out 3
                 have p138 : 0 ≤ (a1_3 : Int) := of_decide_eq_true (by first | (with_reducible assumption) | assumption)
                 have q138 : a1_3 < (l0_0.length : Int) := of_decide_eq_true (by first | (with_reducible assumption) | assumption)
                 obtain ⟨ad138, e138, hx138_0, hx138_1, hx138_2⟩ := at_T35 HR0_0.out a1_3 p138 q138
                 obtain rfl : ad134 = ad138 := (by injection e138)
                 replace hx138_0 := (HB.out.cell (qbl w _ hx138_0)).trans hx138_0
                 replace hx138_1 := (HB.out.cell (qbl w _ hx138_1)).trans hx138_1
                 replace hx138_2 := (HB.out.cell (qbl w _ hx138_2)).trans hx138_2
                 replace p138 := eq_true p138
                 replace q138 := eq_true q138
                 go_wp2_with (first | ((with_reducible refine gate_dst (N := 8) rfl ?_); refine box_event ?hg (N := 8) ?hd (cs := #[.int .i64 0, .int .i64 0, .int .i64 0]) (t := 35) ?hr ?_; (case hd => rfl); (case hg => rfl); (case hr => first | (go_simp; done) | (go_simp; rfl)); intro gb139 hg w172 hbox hb; have n0_ := qam (blk_below (g := gb132) (o := .cells #[.slice (some ad134) l0_0.length c0_0, .slice A0_1 l0_1.length c0_1, .int .i64 a0_2] 25 (0, 0)) (by (with_reducible repeat (first | refine qb3 ?_ _ | refine qb5 ?_ | refine qb4 ?_ _)); exact BK132.out) hb); have n1_ := qam (blk_below (g := gb133) (o := .cells #[.int .i64 a1_0, .int .i64 a1_1, .int .i64 a1_2, .int .i64 a1_3] 32 (0, 0)) (by (with_reducible repeat (first | refine qb3 ?_ _ | refine qb5 ?_ | refine qb4 ?_ _)); exact BK133.out) hb); have n2_ := qam (blk_below (g := gb136) (o := .cells #[.int .i64 ((rd_T35 l0_0 a1_0).f0), .int .i64 ((rd_T35 l0_0 a1_0).f1), .int .i64 ((rd_T35 l0_0 a1_0).f2)] 35 (0, 0)) (by (with_reducible repeat (first | refine qb3 ?_ _ | refine qb5 ?_ | refine qb4 ?_ _)); exact BK136.out) hb); have n3_ := qam (blk_below (g := gb137) (o := .cells #[.int .i64 ((rd_T35 l0_0 a1_1).f0), .int .i64 ((rd_T35 l0_0 a1_1).f1), .int .i64 ((rd_T35 l0_0 a1_1).f2)] 35 (0, 0)) (by (with_reducible repeat (first | refine qb3 ?_ _ | refine qb5 ?_ | refine qb4 ?_ _)); exact BK137.out) hb); have n4_ := qam (qw6 (by repeat (first | (with_reducible first | exact HB.out | apply qw1 | apply qw2 | apply qw3 | refine qw4 ?_ GE132.out | refine qw4 ?_ GE133.out | refine qw4 ?_ GE136.out | refine qw4 ?_ GE137.out) | exact HB.out)) hb); have n5_ := qam (hbox); have n6_ := qam ((by rw [hg]; exact (qw5 (by repeat (first | (with_reducible first | exact HB.out | apply qw1 | apply qw2 | apply qw3 | refine qw4 ?_ GE132.out | refine qw4 ?_ GE133.out | refine qw4 ?_ GE136.out | refine qw4 ?_ GE137.out) | exact HB.out))) : w.heap.size ≤ gb139)); have n7_ := qam ((by rw [hg]; exact (qw5 (by repeat (first | (with_reducible first | exact HB.out | apply qw1 | apply qw2 | apply qw3 | refine qw4 ?_ GE132.out | refine qw4 ?_ GE133.out | refine qw4 ?_ GE136.out | refine qw4 ?_ GE137.out) | exact HB.out))) : w.heap.size ≤ gb139)); have n8_ := qam ((by rw [hg]; exact qnn (blk_lt (g := gb132) (o := .cells #[.slice (some ad134) l0_0.length c0_0, .slice A0_1 l0_1.length c0_1, .int .i64 a0_2] 25 (0, 0)) (by (with_reducible repeat (first | refine qb3 ?_ _ | refine qb5 ?_ | refine qb4 ?_ _)); exact BK132.out)) : gb132 ≠ gb139)); have n9_ := qam ((by rw [hg]; exact Nat.ne_of_gt (blk_lt (g := gb132) (o := .cells #[.slice (some ad134) l0_0.length c0_0, .slice A0_1 l0_1.length c0_1, .int .i64 a0_2] 25 (0, 0)) (by (with_reducible repeat (first | refine qb3 ?_ _ | refine qb5 ?_ | refine qb4 ?_ _)); exact BK132.out)) : gb139 ≠ gb132)); have n10_ := qam ((by rw [hg]; exact qnn (blk_lt (g := gb133) (o := .cells #[.int .i64 a1_0, .int .i64 a1_1, .int .i64 a1_2, .int .i64 a1_3] 32 (0, 0)) (by (with_reducible repeat (first | refine qb3 ?_ _ | refine qb5 ?_ | refine qb4 ?_ _)); exact BK133.out)) : gb133 ≠ gb139)); have n11_ := qam ((by rw [hg]; exact Nat.ne_of_gt (blk_lt (g := gb133) (o := .cells #[.int .i64 a1_0, .int .i64 a1_1, .int .i64 a1_2, .int .i64 a1_3] 32 (0, 0)) (by (with_reducible repeat (first | refine qb3 ?_ _ | refine qb5 ?_ | refine qb4 ?_ _)); exact BK133.out)) : gb139 ≠ gb133)); have n12_ := qam ((by rw [hg]; exact qnn (blk_lt (g := gb136) (o := .cells #[.int .i64 ((rd_T35 l0_0 a1_0).f0), .int .i64 ((rd_T35 l0_0 a1_0).f1), .int .i64 ((rd_T35 l0_0 a1_0).f2)] 35 (0, 0)) (by (with_reducible repeat (first | refine qb3 ?_ _ | refine qb5 ?_ | refine qb4 ?_ _)); exact BK136.out)) : gb136 ≠ gb139)); have n13_ := qam ((by rw [hg]; exact Nat.ne_of_gt (blk_lt (g := gb136) (o := .cells #[.int .i64 ((rd_T35 l0_0 a1_0).f0), .int .i64 ((rd_T35 l0_0 a1_0).f1), .int .i64 ((rd_T35 l0_0 a1_0).f2)] 35 (0, 0)) (by (with_reducible repeat (first | refine qb3 ?_ _ | refine qb5 ?_ | refine qb4 ?_ _)); exact BK136.out)) : gb139 ≠ gb136)); have n14_ := qam ((by rw [hg]; exact qnn (blk_lt (g := gb137) (o := .cells #[.int .i64 ((rd_T35 l0_0 a1_1).f0), .int .i64 ((rd_T35 l0_0 a1_1).f1), .int .i64 ((rd_T35 l0_0 a1_1).f2)] 35 (0, 0)) (by (with_reducible repeat (first | refine qb3 ?_ _ | refine qb5 ?_ | refine qb4 ?_ _)); exact BK137.out)) : gb137 ≠ gb139)); have n15_ := qam ((by rw [hg]; exact Nat.ne_of_gt (blk_lt (g := gb137) (o := .cells #[.int .i64 ((rd_T35 l0_0 a1_1).f0), .int .i64 ((rd_T35 l0_0 a1_1).f1), .int .i64 ((rd_T35 l0_0 a1_1).f2)] 35 (0, 0)) (by (with_reducible repeat (first | refine qb3 ?_ _ | refine qb5 ?_ | refine qb4 ?_ _)); exact BK137.out)) : gb139 ≠ gb137)); clear BK132; clear BK133; clear BK136; clear BK137; clear HB; have BK132 := n0_; have BK133 := n1_; have BK136 := n2_; have BK137 := n3_; have HB := n4_; have BK139 := n5_; have GW139 := n6_; have GE139 := n7_; have NB132_139 := n8_; have NB139_132 := n9_; have NB133_139 := n10_; have NB139_133 := n11_; have NB136_139 := n12_; have NB139_136 := n13_; have NB137_139 := n14_; have NB139_137 := n15_; clear n0_ n1_ n2_ n3_ n4_ n5_ n6_ n7_ n8_ n9_ n10_ n11_ n12_ n13_ n14_ n15_; clear hb hbox hg; have hnb173 := NB139_132.out; have hnc173 := NB132_139.out; have hnb174 := NB139_133.out; have hnc174 := NB133_139.out; have hnb175 := NB139_136.out; have hnc175 := NB136_139.out; have hnb176 := NB139_137.out; have hnc176 := NB137_139.out; have hcz177_0 : w172.cell? ⟨gb139, 0, none⟩ = some (.int .i64 0) := (qb1 BK139.out 0).trans rfl; have hcz177_1 : w172.cell? ⟨gb139, 1, none⟩ = some (.int .i64 0) := (qb1 BK139.out 1).trans rfl; have hcz177_2 : w172.cell? ⟨gb139, 2, none⟩ = some (.int .i64 0) := (qb1 BK139.out 2).trans rfl; have hfz177_0 := qb2 BK139.out 0; have hfz177_1 := qb2 BK139.out 1; have hfz177_2 := qb2 BK139.out 2; have hnb178 := NB136_137.out; have hnc178 := NB137_136.out; have hcz179_0 : w172.cell? ⟨gb136, 0, none⟩ = some (.int .i64 ((rd_T35 l0_0 a1_0).f0)) := (qb1 BK136.out 0).trans rfl; have hcz179_1 : w172.cell? ⟨gb136, 1, none⟩ = some (.int .i64 ((rd_T35 l0_0 a1_0).f1)) := (qb1 BK136.out 1).trans rfl; have hcz179_2 : w172.cell? ⟨gb136, 2, none⟩ = some (.int .i64 ((rd_T35 l0_0 a1_0).f2)) := (qb1 BK136.out 2).trans rfl; have hfz179_0 := qb2 BK136.out 0; have hfz179_1 := qb2 BK136.out 1; have hfz179_2 := qb2 BK136.out 2; have hcz180_0 : w172.cell? ⟨gb137, 0, none⟩ = some (.int .i64 ((rd_T35 l0_0 a1_1).f0)) := (qb1 BK137.out 0).trans rfl; have hcz180_1 : w172.cell? ⟨gb137, 1, none⟩ = some (.int .i64 ((rd_T35 l0_0 a1_1).f1)) := (qb1 BK137.out 1).trans rfl; have hcz180_2 : w172.cell? ⟨gb137, 2, none⟩ = some (.int .i64 ((rd_T35 l0_0 a1_1).f2)) := (qb1 BK137.out 2).trans rfl; have hfz180_0 := qb2 BK137.out 0; have hfz180_1 := qb2 BK137.out 1; have hfz180_2 := qb2 BK137.out 2; have hcz181_0 : w172.cell? ⟨gb132, 0, none⟩ = some (.slice (some ad134) l0_0.length c0_0) := (qb1 BK132.out 0).trans rfl; have hcz181_1 : w172.cell? ⟨gb132, 1, none⟩ = some (.slice A0_1 l0_1.length c0_1) := (qb1 BK132.out 1).trans rfl; have hcz181_2 : w172.cell? ⟨gb132, 2, none⟩ = some (.int .i64 a0_2) := (qb1 BK132.out 2).trans rfl; have hfz181_0 := qb2 BK132.out 0; have hfz181_1 := qb2 BK132.out 1; have hfz181_2 := qb2 BK132.out 2; have hcz182_0 : w172.cell? ⟨gb133, 0, none⟩ = some (.int .i64 a1_0) := (qb1 BK133.out 0).trans rfl; have hcz182_1 : w172.cell? ⟨gb133, 1, none⟩ = some (.int .i64 a1_1) := (qb1 BK133.out 1).trans rfl; have hcz182_2 : w172.cell? ⟨gb133, 2, none⟩ = some (.int .i64 a1_2) := (qb1 BK133.out 2).trans rfl; have hcz182_3 : w172.cell? ⟨gb133, 3, none⟩ = some (.int .i64 a1_3) := (qb1 BK133.out 3).trans rfl; have hfz182_0 := qb2 BK133.out 0; have hfz182_1 := qb2 BK133.out 1; have hfz182_2 := qb2 BK133.out 2; have hfz182_3 := qb2 BK133.out 3) | (go_at_call 177; (with_reducible refine (super_enters.calls kj135 _ _ l0_0 _ _ l0_1 a0_2 a1_3 ((rd_T35 l0_0 a1_0).f0) t140 _ ?side1 ?side2 ?side3 ?side4 A164.out).mono ?_); (case side1 => exact qk4 HR0_0.out (by repeat (first | (with_reducible first | exact HB.out | apply qw1 | apply qw2 | apply qw3 | refine qw4 ?_ GE132.out | refine qw4 ?_ GE133.out | refine qw4 ?_ GE136.out | refine qw4 ?_ GE137.out | refine qw4 ?_ GE139.out) | exact HB.out))); (case side2 => exact HC0_0.out); (case side3 => exact qk4 HR0_1.out (by repeat (first | (with_reducible first | exact HB.out | apply qw1 | apply qw2 | apply qw3 | refine qw4 ?_ GE132.out | refine qw4 ?_ GE133.out | refine qw4 ?_ GE136.out | refine qw4 ?_ GE137.out | refine qw4 ?_ GE139.out) | exact HB.out))); (case side4 => exact HC0_1.out); rintro e w183 ⟨rfl, hb⟩; have n0_ := qam (blk_below (g := gb132) (o := .cells #[.slice (some ad134) l0_0.length c0_0, .slice A0_1 l0_1.length c0_1, .int .i64 a0_2] 25 (0, 0)) (by (with_reducible repeat (first | refine qb3 ?_ _ | refine qb5 ?_ | refine qb4 ?_ _)); refine blk_far ?_ NB132_139.out _; (with_reducible repeat (first | refine qb3 ?_ _ | refine qb5 ?_ | refine qb4 ?_ _)); refine blk_far ?_ NB132_139.out _; (with_reducible repeat (first | refine qb3 ?_ _ | refine qb5 ?_ | refine qb4 ?_ _)); refine blk_far ?_ NB132_139.out _; (with_reducible repeat (first | refine qb3 ?_ _ | refine qb5 ?_ | refine qb4 ?_ _)); exact BK132.out) hb); have n1_ := qam (blk_below (g := gb133) (o := .cells #[.int .i64 a1_0, .int .i64 a1_1, .int .i64 a1_2, .int .i64 a1_3] 32 (0, 0)) (by (with_reducible repeat (first | refine qb3 ?_ _ | refine qb5 ?_ | refine qb4 ?_ _)); refine blk_far ?_ NB133_139.out _; (with_reducible repeat (first | refine qb3 ?_ _ | refine qb5 ?_ | refine qb4 ?_ _)); refine blk_far ?_ NB133_139.out _; (with_reducible repeat (first | refine qb3 ?_ _ | refine qb5 ?_ | refine qb4 ?_ _)); refine blk_far ?_ NB133_139.out _; (with_reducible repeat (first | refine qb3 ?_ _ | refine qb5 ?_ | refine qb4 ?_ _)); exact BK133.out) hb); have n2_ := qam (blk_below (g := gb136) (o := .cells #[.int .i64 ((rd_T35 l0_0 a1_0).f0), .int .i64 ((rd_T35 l0_0 a1_0).f1), .int .i64 ((rd_T35 l0_0 a1_0).f2)] 35 (0, 0)) (by (with_reducible repeat (first | refine qb3 ?_ _ | refine qb5 ?_ | refine qb4 ?_ _)); refine blk_far ?_ NB136_139.out _; (with_reducible repeat (first | refine qb3 ?_ _ | refine qb5 ?_ | refine qb4 ?_ _)); refine blk_far ?_ NB136_139.out _; (with_reducible repeat (first | refine qb3 ?_ _ | refine qb5 ?_ | refine qb4 ?_ _)); refine blk_far ?_ NB136_139.out _; (with_reducible repeat (first | refine qb3 ?_ _ | refine qb5 ?_ | refine qb4 ?_ _)); exact BK136.out) hb); have n3_ := qam (blk_below (g := gb137) (o := .cells #[.int .i64 ((rd_T35 l0_0 a1_1).f0), .int .i64 ((rd_T35 l0_0 a1_1).f1), .int .i64 ((rd_T35 l0_0 a1_1).f2)] 35 (0, 0)) (by (with_reducible repeat (first | refine qb3 ?_ _ | refine qb5 ?_ | refine qb4 ?_ _)); refine blk_far ?_ NB137_139.out _; (with_reducible repeat (first | refine qb3 ?_ _ | refine qb5 ?_ | refine qb4 ?_ _)); refine blk_far ?_ NB137_139.out _; (with_reducible repeat (first | refine qb3 ?_ _ | refine qb5 ?_ | refine qb4 ?_ _)); refine blk_far ?_ NB137_139.out _; (with_reducible repeat (first | refine qb3 ?_ _ | refine qb5 ?_ | refine qb4 ?_ _)); exact BK137.out) hb); have n4_ := qam (blk_below (g := gb139) (o := .cells #[.int .i64 ((rd_T35 l0_0 a1_3).f0), .int .i64 ((rd_T35 l0_0 a1_3).f1), .int .i64 ((rd_T35 l0_0 a1_3).f2)] 35 (0, 0)) (by (with_reducible repeat (first | refine qb3 ?_ _ | refine qb5 ?_ | refine qb4 ?_ _)); refine blk_put (cs := #[.int .i64 ((rd_T35 l0_0 a1_3).f0), .int .i64 ((rd_T35 l0_0 a1_3).f1), .int .i64 0]) ?_ 2 _ rfl; (with_reducible repeat (first | refine qb3 ?_ _ | refine qb5 ?_ | refine qb4 ?_ _)); refine blk_put (cs := #[.int .i64 ((rd_T35 l0_0 a1_3).f0), .int .i64 0, .int .i64 0]) ?_ 1 _ rfl; (with_reducible repeat (first | refine qb3 ?_ _ | refine qb5 ?_ | refine qb4 ?_ _)); refine blk_put (cs := #[.int .i64 0, .int .i64 0, .int .i64 0]) ?_ 0 _ rfl; (with_reducible repeat (first | refine qb3 ?_ _ | refine qb5 ?_ | refine qb4 ?_ _)); exact BK139.out) hb); have n5_ := qam (qw6 (by repeat (first | (with_reducible first | exact HB.out | apply qw1 | apply qw2 | apply qw3 | refine qw4 ?_ GE132.out | refine qw4 ?_ GE133.out | refine qw4 ?_ GE136.out | refine qw4 ?_ GE137.out | refine qw4 ?_ GE139.out) | exact HB.out)) hb); clear BK132; clear BK133; clear BK136; clear BK137; clear BK139; clear HB; have BK132 := n0_; have BK133 := n1_; have BK136 := n2_; have BK137 := n3_; have BK139 := n4_; have HB := n5_; clear n0_ n1_ n2_ n3_ n4_ n5_; (try clear hb); (try clear hb2); (try clear hk); (try clear hi)))
                 go_ret
                 exact ⟨by first | rfl | (simp [errW_none, errW_some] <;> rfl) | (simp [*, errW_none, errW_some] <;> rfl), by repeat (first | (with_reducible first | exact HB.out | apply qw1 | apply qw2 | apply qw3 | refine qw4 ?_ GE132.out | refine qw4 ?_ GE133.out | refine qw4 ?_ GE136.out | refine qw4 ?_ GE137.out | refine qw4 ?_ GE139.out) | exact HB.out)⟩
               ·rw [if_neg c146] at H
                have c146b0 : (((rd_T35 l0_0 a1_1).f0) == ((rd_T35 l0_0 a1_3).f0)) = false := beq_eq_false_iff_ne.mpr c146
                have c146b1 : (((rd_T35 l0_0 a1_1).f0) != ((rd_T35 l0_0 a1_3).f0)) = true := bne_iff_ne.mpr c146
                obtain rfl := Option.some.inj H
                have hnb184 := NB132_133.out
                have hnc184 := NB133_132.out
                have hnb185 := NB132_136.out
                have hnc185 := NB136_132.out
                have hnb186 := NB132_137.out
                have hnc186 := NB137_132.out
                have hcz187_0 : wc.cell? ⟨gb132, 0, none⟩ = some (.slice (some ad134) l0_0.length c0_0) := (qb1 BK132.out 0).trans rfl
                have hcz187_1 : wc.cell? ⟨gb132, 1, none⟩ = some (.slice A0_1 l0_1.length c0_1) := (qb1 BK132.out 1).trans rfl
                have hcz187_2 : wc.cell? ⟨gb132, 2, none⟩ = some (.int .i64 a0_2) := (qb1 BK132.out 2).trans rfl
                have hfz187_0 := qb2 BK132.out 0
                have hfz187_1 := qb2 BK132.out 1
                have hfz187_2 := qb2 BK132.out 2
                have hnb188 := NB133_136.out
                have hnc188 := NB136_133.out
                have hnb189 := NB133_137.out
                have hnc189 := NB137_133.out
                have hcz190_0 : wc.cell? ⟨gb133, 0, none⟩ = some (.int .i64 a1_0) := (qb1 BK133.out 0).trans rfl
                have hcz190_1 : wc.cell? ⟨gb133, 1, none⟩ = some (.int .i64 a1_1) := (qb1 BK133.out 1).trans rfl
                have hcz190_2 : wc.cell? ⟨gb133, 2, none⟩ = some (.int .i64 a1_2) := (qb1 BK133.out 2).trans rfl
                have hcz190_3 : wc.cell? ⟨gb133, 3, none⟩ = some (.int .i64 a1_3) := (qb1 BK133.out 3).trans rfl
                have hfz190_0 := qb2 BK133.out 0
                have hfz190_1 := qb2 BK133.out 1
                have hfz190_2 := qb2 BK133.out 2
                have hfz190_3 := qb2 BK133.out 3
                have p138 : 0 ≤ (a1_3 : Int) := of_decide_eq_true (by first | (with_reducible assumption) | assumption)
                have q138 : a1_3 < (l0_0.length : Int) := of_decide_eq_true (by first | (with_reducible assumption) | assumption)
                obtain ⟨ad138, e138, hx138_0, hx138_1, hx138_2⟩ := at_T35 HR0_0.out a1_3 p138 q138
                obtain rfl : ad134 = ad138 := (by injection e138)
                replace hx138_0 := (HB.out.cell (qbl w _ hx138_0)).trans hx138_0
                replace hx138_1 := (HB.out.cell (qbl w _ hx138_1)).trans hx138_1
                replace hx138_2 := (HB.out.cell (qbl w _ hx138_2)).trans hx138_2
                replace p138 := eq_true p138
                replace q138 := eq_true q138
                go_wp2_with (first | ((with_reducible refine gate_dst (N := 8) rfl ?_); refine box_event ?hg (N := 8) ?hd (cs := #[.int .i64 0, .int .i64 0, .int .i64 0]) (t := 35) ?hr ?_; (case hd => rfl); (case hg => rfl); (case hr => first | (go_simp; done) | (go_simp; rfl)); intro gb139 hg w191 hbox hb; have n0_ := qam (blk_below (g := gb132) (o := .cells #[.slice (some ad134) l0_0.length c0_0, .slice A0_1 l0_1.length c0_1, .int .i64 a0_2] 25 (0, 0)) (by (with_reducible repeat (first | refine qb3 ?_ _ | refine qb5 ?_ | refine qb4 ?_ _)); exact BK132.out) hb); have n1_ := qam (blk_below (g := gb133) (o := .cells #[.int .i64 a1_0, .int .i64 a1_1, .int .i64 a1_2, .int .i64 a1_3] 32 (0, 0)) (by (with_reducible repeat (first | refine qb3 ?_ _ | refine qb5 ?_ | refine qb4 ?_ _)); exact BK133.out) hb); have n2_ := qam (blk_below (g := gb136) (o := .cells #[.int .i64 ((rd_T35 l0_0 a1_0).f0), .int .i64 ((rd_T35 l0_0 a1_0).f1), .int .i64 ((rd_T35 l0_0 a1_0).f2)] 35 (0, 0)) (by (with_reducible repeat (first | refine qb3 ?_ _ | refine qb5 ?_ | refine qb4 ?_ _)); exact BK136.out) hb); have n3_ := qam (blk_below (g := gb137) (o := .cells #[.int .i64 ((rd_T35 l0_0 a1_1).f0), .int .i64 ((rd_T35 l0_0 a1_1).f1), .int .i64 ((rd_T35 l0_0 a1_1).f2)] 35 (0, 0)) (by (with_reducible repeat (first | refine qb3 ?_ _ | refine qb5 ?_ | refine qb4 ?_ _)); exact BK137.out) hb); have n4_ := qam (qw6 (by repeat (first | (with_reducible first | exact HB.out | apply qw1 | apply qw2 | apply qw3 | refine qw4 ?_ GE132.out | refine qw4 ?_ GE133.out | refine qw4 ?_ GE136.out | refine qw4 ?_ GE137.out) | exact HB.out)) hb); have n5_ := qam (hbox); have n6_ := qam ((by rw [hg]; exact (qw5 (by repeat (first | (with_reducible first | exact HB.out | apply qw1 | apply qw2 | apply qw3 | refine qw4 ?_ GE132.out | refine qw4 ?_ GE133.out | refine qw4 ?_ GE136.out | refine qw4 ?_ GE137.out) | exact HB.out))) : w.heap.size ≤ gb139)); have n7_ := qam ((by rw [hg]; exact (qw5 (by repeat (first | (with_reducible first | exact HB.out | apply qw1 | apply qw2 | apply qw3 | refine qw4 ?_ GE132.out | refine qw4 ?_ GE133.out | refine qw4 ?_ GE136.out | refine qw4 ?_ GE137.out) | exact HB.out))) : w.heap.size ≤ gb139)); have n8_ := qam ((by rw [hg]; exact qnn (blk_lt (g := gb132) (o := .cells #[.slice (some ad134) l0_0.length c0_0, .slice A0_1 l0_1.length c0_1, .int .i64 a0_2] 25 (0, 0)) (by (with_reducible repeat (first | refine qb3 ?_ _ | refine qb5 ?_ | refine qb4 ?_ _)); exact BK132.out)) : gb132 ≠ gb139)); have n9_ := qam ((by rw [hg]; exact Nat.ne_of_gt (blk_lt (g := gb132) (o := .cells #[.slice (some ad134) l0_0.length c0_0, .slice A0_1 l0_1.length c0_1, .int .i64 a0_2] 25 (0, 0)) (by (with_reducible repeat (first | refine qb3 ?_ _ | refine qb5 ?_ | refine qb4 ?_ _)); exact BK132.out)) : gb139 ≠ gb132)); have n10_ := qam ((by rw [hg]; exact qnn (blk_lt (g := gb133) (o := .cells #[.int .i64 a1_0, .int .i64 a1_1, .int .i64 a1_2, .int .i64 a1_3] 32 (0, 0)) (by (with_reducible repeat (first | refine qb3 ?_ _ | refine qb5 ?_ | refine qb4 ?_ _)); exact BK133.out)) : gb133 ≠ gb139)); have n11_ := qam ((by rw [hg]; exact Nat.ne_of_gt (blk_lt (g := gb133) (o := .cells #[.int .i64 a1_0, .int .i64 a1_1, .int .i64 a1_2, .int .i64 a1_3] 32 (0, 0)) (by (with_reducible repeat (first | refine qb3 ?_ _ | refine qb5 ?_ | refine qb4 ?_ _)); exact BK133.out)) : gb139 ≠ gb133)); have n12_ := qam ((by rw [hg]; exact qnn (blk_lt (g := gb136) (o := .cells #[.int .i64 ((rd_T35 l0_0 a1_0).f0), .int .i64 ((rd_T35 l0_0 a1_0).f1), .int .i64 ((rd_T35 l0_0 a1_0).f2)] 35 (0, 0)) (by (with_reducible repeat (first | refine qb3 ?_ _ | refine qb5 ?_ | refine qb4 ?_ _)); exact BK136.out)) : gb136 ≠ gb139)); have n13_ := qam ((by rw [hg]; exact Nat.ne_of_gt (blk_lt (g := gb136) (o := .cells #[.int .i64 ((rd_T35 l0_0 a1_0).f0), .int .i64 ((rd_T35 l0_0 a1_0).f1), .int .i64 ((rd_T35 l0_0 a1_0).f2)] 35 (0, 0)) (by (with_reducible repeat (first | refine qb3 ?_ _ | refine qb5 ?_ | refine qb4 ?_ _)); exact BK136.out)) : gb139 ≠ gb136)); have n14_ := qam ((by rw [hg]; exact qnn (blk_lt (g := gb137) (o := .cells #[.int .i64 ((rd_T35 l0_0 a1_1).f0), .int .i64 ((rd_T35 l0_0 a1_1).f1), .int .i64 ((rd_T35 l0_0 a1_1).f2)] 35 (0, 0)) (by (with_reducible repeat (first | refine qb3 ?_ _ | refine qb5 ?_ | refine qb4 ?_ _)); exact BK137.out)) : gb137 ≠ gb139)); have n15_ := qam ((by rw [hg]; exact Nat.ne_of_gt (blk_lt (g := gb137) (o := .cells #[.int .i64 ((rd_T35 l0_0 a1_1).f0), .int .i64 ((rd_T35 l0_0 a1_1).f1), .int .i64 ((rd_T35 l0_0 a1_1).f2)] 35 (0, 0)) (by (with_reducible repeat (first | refine qb3 ?_ _ | refine qb5 ?_ | refine qb4 ?_ _)); exact BK137.out)) : gb139 ≠ gb137)); clear BK132; clear BK133; clear BK136; clear BK137; clear HB; have BK132 := n0_; have BK133 := n1_; have BK136 := n2_; have BK137 := n3_; have HB := n4_; have BK139 := n5_; have GW139 := n6_; have GE139 := n7_; have NB132_139 := n8_; have NB139_132 := n9_; have NB133_139 := n10_; have NB139_133 := n11_; have NB136_139 := n12_; have NB139_136 := n13_; have NB137_139 := n14_; have NB139_137 := n15_; clear n0_ n1_ n2_ n3_ n4_ n5_ n6_ n7_ n8_ n9_ n10_ n11_ n12_ n13_ n14_ n15_; clear hb hbox hg; have hnb192 := NB139_132.out; have hnc192 := NB132_139.out; have hnb193 := NB139_133.out; have hnc193 := NB133_139.out; have hnb194 := NB139_136.out; have hnc194 := NB136_139.out; have hnb195 := NB139_137.out; have hnc195 := NB137_139.out; have hcz196_0 : w191.cell? ⟨gb139, 0, none⟩ = some (.int .i64 0) := (qb1 BK139.out 0).trans rfl; have hcz196_1 : w191.cell? ⟨gb139, 1, none⟩ = some (.int .i64 0) := (qb1 BK139.out 1).trans rfl; have hcz196_2 : w191.cell? ⟨gb139, 2, none⟩ = some (.int .i64 0) := (qb1 BK139.out 2).trans rfl; have hfz196_0 := qb2 BK139.out 0; have hfz196_1 := qb2 BK139.out 1; have hfz196_2 := qb2 BK139.out 2; have hnb197 := NB136_137.out; have hnc197 := NB137_136.out; have hcz198_0 : w191.cell? ⟨gb136, 0, none⟩ = some (.int .i64 ((rd_T35 l0_0 a1_0).f0)) := (qb1 BK136.out 0).trans rfl; have hcz198_1 : w191.cell? ⟨gb136, 1, none⟩ = some (.int .i64 ((rd_T35 l0_0 a1_0).f1)) := (qb1 BK136.out 1).trans rfl; have hcz198_2 : w191.cell? ⟨gb136, 2, none⟩ = some (.int .i64 ((rd_T35 l0_0 a1_0).f2)) := (qb1 BK136.out 2).trans rfl; have hfz198_0 := qb2 BK136.out 0; have hfz198_1 := qb2 BK136.out 1; have hfz198_2 := qb2 BK136.out 2; have hcz199_0 : w191.cell? ⟨gb137, 0, none⟩ = some (.int .i64 ((rd_T35 l0_0 a1_1).f0)) := (qb1 BK137.out 0).trans rfl; have hcz199_1 : w191.cell? ⟨gb137, 1, none⟩ = some (.int .i64 ((rd_T35 l0_0 a1_1).f1)) := (qb1 BK137.out 1).trans rfl; have hcz199_2 : w191.cell? ⟨gb137, 2, none⟩ = some (.int .i64 ((rd_T35 l0_0 a1_1).f2)) := (qb1 BK137.out 2).trans rfl; have hfz199_0 := qb2 BK137.out 0; have hfz199_1 := qb2 BK137.out 1; have hfz199_2 := qb2 BK137.out 2))
                go_ret
                exact ⟨by first | rfl | (simp [errW_none, errW_some] <;> rfl) | (simp [*, errW_none, errW_some] <;> rfl), by repeat (first | (with_reducible first | exact HB.out | apply qw1 | apply qw2 | apply qw3 | refine qw4 ?_ GE132.out | refine qw4 ?_ GE133.out | refine qw4 ?_ GE136.out | refine qw4 ?_ GE137.out | refine qw4 ?_ GE139.out) | exact HB.out)⟩
              ·rw [if_neg c145] at H
               have c145b0 : (((rd_T35 l0_0 a1_3).f1) == 2) = false := beq_eq_false_iff_ne.mpr c145
               have c145b1 : (((rd_T35 l0_0 a1_3).f1) != 2) = true := bne_iff_ne.mpr c145
               obtain rfl := Option.some.inj H
               have hnb200 := NB132_133.out
               have hnc200 := NB133_132.out
               have hnb201 := NB132_136.out
               have hnc201 := NB136_132.out
               have hnb202 := NB132_137.out
               have hnc202 := NB137_132.out
               have hcz203_0 : wc.cell? ⟨gb132, 0, none⟩ = some (.slice (some ad134) l0_0.length c0_0) := (qb1 BK132.out 0).trans rfl
               have hcz203_1 : wc.cell? ⟨gb132, 1, none⟩ = some (.slice A0_1 l0_1.length c0_1) := (qb1 BK132.out 1).trans rfl
               have hcz203_2 : wc.cell? ⟨gb132, 2, none⟩ = some (.int .i64 a0_2) := (qb1 BK132.out 2).trans rfl
               have hfz203_0 := qb2 BK132.out 0
               have hfz203_1 := qb2 BK132.out 1
               have hfz203_2 := qb2 BK132.out 2
               have hnb204 := NB133_136.out
               have hnc204 := NB136_133.out
               have hnb205 := NB133_137.out
               have hnc205 := NB137_133.out
               have hcz206_0 : wc.cell? ⟨gb133, 0, none⟩ = some (.int .i64 a1_0) := (qb1 BK133.out 0).trans rfl
               have hcz206_1 : wc.cell? ⟨gb133, 1, none⟩ = some (.int .i64 a1_1) := (qb1 BK133.out 1).trans rfl
               have hcz206_2 : wc.cell? ⟨gb133, 2, none⟩ = some (.int .i64 a1_2) := (qb1 BK133.out 2).trans rfl
               have hcz206_3 : wc.cell? ⟨gb133, 3, none⟩ = some (.int .i64 a1_3) := (qb1 BK133.out 3).trans rfl
               have hfz206_0 := qb2 BK133.out 0
               have hfz206_1 := qb2 BK133.out 1
               have hfz206_2 := qb2 BK133.out 2
               have hfz206_3 := qb2 BK133.out 3
               have p138 : 0 ≤ (a1_3 : Int) := of_decide_eq_true (by first | (with_reducible assumption) | assumption)
               have q138 : a1_3 < (l0_0.length : Int) := of_decide_eq_true (by first | (with_reducible assumption) | assumption)
               obtain ⟨ad138, e138, hx138_0, hx138_1, hx138_2⟩ := at_T35 HR0_0.out a1_3 p138 q138
               obtain rfl : ad134 = ad138 := (by injection e138)
               replace hx138_0 := (HB.out.cell (qbl w _ hx138_0)).trans hx138_0
               replace hx138_1 := (HB.out.cell (qbl w _ hx138_1)).trans hx138_1
               replace hx138_2 := (HB.out.cell (qbl w _ hx138_2)).trans hx138_2
               replace p138 := eq_true p138
               replace q138 := eq_true q138
               go_wp2_with (first | ((with_reducible refine gate_dst (N := 8) rfl ?_); refine box_event ?hg (N := 8) ?hd (cs := #[.int .i64 0, .int .i64 0, .int .i64 0]) (t := 35) ?hr ?_; (case hd => rfl); (case hg => rfl); (case hr => first | (go_simp; done) | (go_simp; rfl)); intro gb139 hg w207 hbox hb; have n0_ := qam (blk_below (g := gb132) (o := .cells #[.slice (some ad134) l0_0.length c0_0, .slice A0_1 l0_1.length c0_1, .int .i64 a0_2] 25 (0, 0)) (by (with_reducible repeat (first | refine qb3 ?_ _ | refine qb5 ?_ | refine qb4 ?_ _)); exact BK132.out) hb); have n1_ := qam (blk_below (g := gb133) (o := .cells #[.int .i64 a1_0, .int .i64 a1_1, .int .i64 a1_2, .int .i64 a1_3] 32 (0, 0)) (by (with_reducible repeat (first | refine qb3 ?_ _ | refine qb5 ?_ | refine qb4 ?_ _)); exact BK133.out) hb); have n2_ := qam (blk_below (g := gb136) (o := .cells #[.int .i64 ((rd_T35 l0_0 a1_0).f0), .int .i64 ((rd_T35 l0_0 a1_0).f1), .int .i64 ((rd_T35 l0_0 a1_0).f2)] 35 (0, 0)) (by (with_reducible repeat (first | refine qb3 ?_ _ | refine qb5 ?_ | refine qb4 ?_ _)); exact BK136.out) hb); have n3_ := qam (blk_below (g := gb137) (o := .cells #[.int .i64 ((rd_T35 l0_0 a1_1).f0), .int .i64 ((rd_T35 l0_0 a1_1).f1), .int .i64 ((rd_T35 l0_0 a1_1).f2)] 35 (0, 0)) (by (with_reducible repeat (first | refine qb3 ?_ _ | refine qb5 ?_ | refine qb4 ?_ _)); exact BK137.out) hb); have n4_ := qam (qw6 (by repeat (first | (with_reducible first | exact HB.out | apply qw1 | apply qw2 | apply qw3 | refine qw4 ?_ GE132.out | refine qw4 ?_ GE133.out | refine qw4 ?_ GE136.out | refine qw4 ?_ GE137.out) | exact HB.out)) hb); have n5_ := qam (hbox); have n6_ := qam ((by rw [hg]; exact (qw5 (by repeat (first | (with_reducible first | exact HB.out | apply qw1 | apply qw2 | apply qw3 | refine qw4 ?_ GE132.out | refine qw4 ?_ GE133.out | refine qw4 ?_ GE136.out | refine qw4 ?_ GE137.out) | exact HB.out))) : w.heap.size ≤ gb139)); have n7_ := qam ((by rw [hg]; exact (qw5 (by repeat (first | (with_reducible first | exact HB.out | apply qw1 | apply qw2 | apply qw3 | refine qw4 ?_ GE132.out | refine qw4 ?_ GE133.out | refine qw4 ?_ GE136.out | refine qw4 ?_ GE137.out) | exact HB.out))) : w.heap.size ≤ gb139)); have n8_ := qam ((by rw [hg]; exact qnn (blk_lt (g := gb132) (o := .cells #[.slice (some ad134) l0_0.length c0_0, .slice A0_1 l0_1.length c0_1, .int .i64 a0_2] 25 (0, 0)) (by (with_reducible repeat (first | refine qb3 ?_ _ | refine qb5 ?_ | refine qb4 ?_ _)); exact BK132.out)) : gb132 ≠ gb139)); have n9_ := qam ((by rw [hg]; exact Nat.ne_of_gt (blk_lt (g := gb132) (o := .cells #[.slice (some ad134) l0_0.length c0_0, .slice A0_1 l0_1.length c0_1, .int .i64 a0_2] 25 (0, 0)) (by (with_reducible repeat (first | refine qb3 ?_ _ | refine qb5 ?_ | refine qb4 ?_ _)); exact BK132.out)) : gb139 ≠ gb132)); have n10_ := qam ((by rw [hg]; exact qnn (blk_lt (g := gb133) (o := .cells #[.int .i64 a1_0, .int .i64 a1_1, .int .i64 a1_2, .int .i64 a1_3] 32 (0, 0)) (by (with_reducible repeat (first | refine qb3 ?_ _ | refine qb5 ?_ | refine qb4 ?_ _)); exact BK133.out)) : gb133 ≠ gb139)); have n11_ := qam ((by rw [hg]; exact Nat.ne_of_gt (blk_lt (g := gb133) (o := .cells #[.int .i64 a1_0, .int .i64 a1_1, .int .i64 a1_2, .int .i64 a1_3] 32 (0, 0)) (by (with_reducible repeat (first | refine qb3 ?_ _ | refine qb5 ?_ | refine qb4 ?_ _)); exact BK133.out)) : gb139 ≠ gb133)); have n12_ := qam ((by rw [hg]; exact qnn (blk_lt (g := gb136) (o := .cells #[.int .i64 ((rd_T35 l0_0 a1_0).f0), .int .i64 ((rd_T35 l0_0 a1_0).f1), .int .i64 ((rd_T35 l0_0 a1_0).f2)] 35 (0, 0)) (by (with_reducible repeat (first | refine qb3 ?_ _ | refine qb5 ?_ | refine qb4 ?_ _)); exact BK136.out)) : gb136 ≠ gb139)); have n13_ := qam ((by rw [hg]; exact Nat.ne_of_gt (blk_lt (g := gb136) (o := .cells #[.int .i64 ((rd_T35 l0_0 a1_0).f0), .int .i64 ((rd_T35 l0_0 a1_0).f1), .int .i64 ((rd_T35 l0_0 a1_0).f2)] 35 (0, 0)) (by (with_reducible repeat (first | refine qb3 ?_ _ | refine qb5 ?_ | refine qb4 ?_ _)); exact BK136.out)) : gb139 ≠ gb136)); have n14_ := qam ((by rw [hg]; exact qnn (blk_lt (g := gb137) (o := .cells #[.int .i64 ((rd_T35 l0_0 a1_1).f0), .int .i64 ((rd_T35 l0_0 a1_1).f1), .int .i64 ((rd_T35 l0_0 a1_1).f2)] 35 (0, 0)) (by (with_reducible repeat (first | refine qb3 ?_ _ | refine qb5 ?_ | refine qb4 ?_ _)); exact BK137.out)) : gb137 ≠ gb139)); have n15_ := qam ((by rw [hg]; exact Nat.ne_of_gt (blk_lt (g := gb137) (o := .cells #[.int .i64 ((rd_T35 l0_0 a1_1).f0), .int .i64 ((rd_T35 l0_0 a1_1).f1), .int .i64 ((rd_T35 l0_0 a1_1).f2)] 35 (0, 0)) (by (with_reducible repeat (first | refine qb3 ?_ _ | refine qb5 ?_ | refine qb4 ?_ _)); exact BK137.out)) : gb139 ≠ gb137)); clear BK132; clear BK133; clear BK136; clear BK137; clear HB; have BK132 := n0_; have BK133 := n1_; have BK136 := n2_; have BK137 := n3_; have HB := n4_; have BK139 := n5_; have GW139 := n6_; have GE139 := n7_; have NB132_139 := n8_; have NB139_132 := n9_; have NB133_139 := n10_; have NB139_133 := n11_; have NB136_139 := n12_; have NB139_136 := n13_; have NB137_139 := n14_; have NB139_137 := n15_; clear n0_ n1_ n2_ n3_ n4_ n5_ n6_ n7_ n8_ n9_ n10_ n11_ n12_ n13_ n14_ n15_; clear hb hbox hg; have hnb208 := NB139_132.out; have hnc208 := NB132_139.out; have hnb209 := NB139_133.out; have hnc209 := NB133_139.out; have hnb210 := NB139_136.out; have hnc210 := NB136_139.out; have hnb211 := NB139_137.out; have hnc211 := NB137_139.out; have hcz212_0 : w207.cell? ⟨gb139, 0, none⟩ = some (.int .i64 0) := (qb1 BK139.out 0).trans rfl; have hcz212_1 : w207.cell? ⟨gb139, 1, none⟩ = some (.int .i64 0) := (qb1 BK139.out 1).trans rfl; have hcz212_2 : w207.cell? ⟨gb139, 2, none⟩ = some (.int .i64 0) := (qb1 BK139.out 2).trans rfl; have hfz212_0 := qb2 BK139.out 0; have hfz212_1 := qb2 BK139.out 1; have hfz212_2 := qb2 BK139.out 2; have hnb213 := NB136_137.out; have hnc213 := NB137_136.out; have hcz214_0 : w207.cell? ⟨gb136, 0, none⟩ = some (.int .i64 ((rd_T35 l0_0 a1_0).f0)) := (qb1 BK136.out 0).trans rfl; have hcz214_1 : w207.cell? ⟨gb136, 1, none⟩ = some (.int .i64 ((rd_T35 l0_0 a1_0).f1)) := (qb1 BK136.out 1).trans rfl; have hcz214_2 : w207.cell? ⟨gb136, 2, none⟩ = some (.int .i64 ((rd_T35 l0_0 a1_0).f2)) := (qb1 BK136.out 2).trans rfl; have hfz214_0 := qb2 BK136.out 0; have hfz214_1 := qb2 BK136.out 1; have hfz214_2 := qb2 BK136.out 2))
               go_ret
               exact ⟨by first | rfl | (simp [errW_none, errW_some] <;> rfl) | (simp [*, errW_none, errW_some] <;> rfl), by repeat (first | (with_reducible first | exact HB.out | apply qw1 | apply qw2 | apply qw3 | refine qw4 ?_ GE132.out | refine qw4 ?_ GE133.out | refine qw4 ?_ GE136.out | refine qw4 ?_ GE137.out | refine qw4 ?_ GE139.out) | exact HB.out)⟩
             ·rw [if_neg c144] at H
              have c144b0 : (((rd_T35 l0_0 a1_0).f1) == x7_135) = false := beq_eq_false_iff_ne.mpr c144
              have c144b1 : (((rd_T35 l0_0 a1_0).f1) != x7_135) = true := bne_iff_ne.mpr c144
              obtain rfl := Option.some.inj H
              have hnb215 := NB132_133.out
              have hnc215 := NB133_132.out
              have hnb216 := NB132_136.out
              have hnc216 := NB136_132.out
              have hnb217 := NB132_137.out
              have hnc217 := NB137_132.out
              have hcz218_0 : wc.cell? ⟨gb132, 0, none⟩ = some (.slice (some ad134) l0_0.length c0_0) := (qb1 BK132.out 0).trans rfl
              have hcz218_1 : wc.cell? ⟨gb132, 1, none⟩ = some (.slice A0_1 l0_1.length c0_1) := (qb1 BK132.out 1).trans rfl
              have hcz218_2 : wc.cell? ⟨gb132, 2, none⟩ = some (.int .i64 a0_2) := (qb1 BK132.out 2).trans rfl
              have hfz218_0 := qb2 BK132.out 0
              have hfz218_1 := qb2 BK132.out 1
              have hfz218_2 := qb2 BK132.out 2
              have hnb219 := NB133_136.out
              have hnc219 := NB136_133.out
              have hnb220 := NB133_137.out
              have hnc220 := NB137_133.out
              have hcz221_0 : wc.cell? ⟨gb133, 0, none⟩ = some (.int .i64 a1_0) := (qb1 BK133.out 0).trans rfl
              have hcz221_1 : wc.cell? ⟨gb133, 1, none⟩ = some (.int .i64 a1_1) := (qb1 BK133.out 1).trans rfl
              have hcz221_2 : wc.cell? ⟨gb133, 2, none⟩ = some (.int .i64 a1_2) := (qb1 BK133.out 2).trans rfl
              have hcz221_3 : wc.cell? ⟨gb133, 3, none⟩ = some (.int .i64 a1_3) := (qb1 BK133.out 3).trans rfl
              have hfz221_0 := qb2 BK133.out 0
              have hfz221_1 := qb2 BK133.out 1
              have hfz221_2 := qb2 BK133.out 2
              have hfz221_3 := qb2 BK133.out 3
              have p138 : 0 ≤ (a1_3 : Int) := of_decide_eq_true (by first | (with_reducible assumption) | assumption)
              have q138 : a1_3 < (l0_0.length : Int) := of_decide_eq_true (by first | (with_reducible assumption) | assumption)
              obtain ⟨ad138, e138, hx138_0, hx138_1, hx138_2⟩ := at_T35 HR0_0.out a1_3 p138 q138
              obtain rfl : ad134 = ad138 := (by injection e138)
              replace hx138_0 := (HB.out.cell (qbl w _ hx138_0)).trans hx138_0
              replace hx138_1 := (HB.out.cell (qbl w _ hx138_1)).trans hx138_1
              replace hx138_2 := (HB.out.cell (qbl w _ hx138_2)).trans hx138_2
              replace p138 := eq_true p138
              replace q138 := eq_true q138
              go_wp2_with (first | ((with_reducible refine gate_dst (N := 8) rfl ?_); refine box_event ?hg (N := 8) ?hd (cs := #[.int .i64 0, .int .i64 0, .int .i64 0]) (t := 35) ?hr ?_; (case hd => rfl); (case hg => rfl); (case hr => first | (go_simp; done) | (go_simp; rfl)); intro gb139 hg w222 hbox hb; have n0_ := qam (blk_below (g := gb132) (o := .cells #[.slice (some ad134) l0_0.length c0_0, .slice A0_1 l0_1.length c0_1, .int .i64 a0_2] 25 (0, 0)) (by (with_reducible repeat (first | refine qb3 ?_ _ | refine qb5 ?_ | refine qb4 ?_ _)); exact BK132.out) hb); have n1_ := qam (blk_below (g := gb133) (o := .cells #[.int .i64 a1_0, .int .i64 a1_1, .int .i64 a1_2, .int .i64 a1_3] 32 (0, 0)) (by (with_reducible repeat (first | refine qb3 ?_ _ | refine qb5 ?_ | refine qb4 ?_ _)); exact BK133.out) hb); have n2_ := qam (blk_below (g := gb136) (o := .cells #[.int .i64 ((rd_T35 l0_0 a1_0).f0), .int .i64 ((rd_T35 l0_0 a1_0).f1), .int .i64 ((rd_T35 l0_0 a1_0).f2)] 35 (0, 0)) (by (with_reducible repeat (first | refine qb3 ?_ _ | refine qb5 ?_ | refine qb4 ?_ _)); exact BK136.out) hb); have n3_ := qam (blk_below (g := gb137) (o := .cells #[.int .i64 ((rd_T35 l0_0 a1_1).f0), .int .i64 ((rd_T35 l0_0 a1_1).f1), .int .i64 ((rd_T35 l0_0 a1_1).f2)] 35 (0, 0)) (by (with_reducible repeat (first | refine qb3 ?_ _ | refine qb5 ?_ | refine qb4 ?_ _)); exact BK137.out) hb); have n4_ := qam (qw6 (by repeat (first | (with_reducible first | exact HB.out | apply qw1 | apply qw2 | apply qw3 | refine qw4 ?_ GE132.out | refine qw4 ?_ GE133.out | refine qw4 ?_ GE136.out | refine qw4 ?_ GE137.out) | exact HB.out)) hb); have n5_ := qam (hbox); have n6_ := qam ((by rw [hg]; exact (qw5 (by repeat (first | (with_reducible first | exact HB.out | apply qw1 | apply qw2 | apply qw3 | refine qw4 ?_ GE132.out | refine qw4 ?_ GE133.out | refine qw4 ?_ GE136.out | refine qw4 ?_ GE137.out) | exact HB.out))) : w.heap.size ≤ gb139)); have n7_ := qam ((by rw [hg]; exact (qw5 (by repeat (first | (with_reducible first | exact HB.out | apply qw1 | apply qw2 | apply qw3 | refine qw4 ?_ GE132.out | refine qw4 ?_ GE133.out | refine qw4 ?_ GE136.out | refine qw4 ?_ GE137.out) | exact HB.out))) : w.heap.size ≤ gb139)); have n8_ := qam ((by rw [hg]; exact qnn (blk_lt (g := gb132) (o := .cells #[.slice (some ad134) l0_0.length c0_0, .slice A0_1 l0_1.length c0_1, .int .i64 a0_2] 25 (0, 0)) (by (with_reducible repeat (first | refine qb3 ?_ _ | refine qb5 ?_ | refine qb4 ?_ _)); exact BK132.out)) : gb132 ≠ gb139)); have n9_ := qam ((by rw [hg]; exact Nat.ne_of_gt (blk_lt (g := gb132) (o := .cells #[.slice (some ad134) l0_0.length c0_0, .slice A0_1 l0_1.length c0_1, .int .i64 a0_2] 25 (0, 0)) (by (with_reducible repeat (first | refine qb3 ?_ _ | refine qb5 ?_ | refine qb4 ?_ _)); exact BK132.out)) : gb139 ≠ gb132)); have n10_ := qam ((by rw [hg]; exact qnn (blk_lt (g := gb133) (o := .cells #[.int .i64 a1_0, .int .i64 a1_1, .int .i64 a1_2, .int .i64 a1_3] 32 (0, 0)) (by (with_reducible repeat (first | refine qb3 ?_ _ | refine qb5 ?_ | refine qb4 ?_ _)); exact BK133.out)) : gb133 ≠ gb139)); have n11_ := qam ((by rw [hg]; exact Nat.ne_of_gt (blk_lt (g := gb133) (o := .cells #[.int .i64 a1_0, .int .i64 a1_1, .int .i64 a1_2, .int .i64 a1_3] 32 (0, 0)) (by (with_reducible repeat (first | refine qb3 ?_ _ | refine qb5 ?_ | refine qb4 ?_ _)); exact BK133.out)) : gb139 ≠ gb133)); have n12_ := qam ((by rw [hg]; exact qnn (blk_lt (g := gb136) (o := .cells #[.int .i64 ((rd_T35 l0_0 a1_0).f0), .int .i64 ((rd_T35 l0_0 a1_0).f1), .int .i64 ((rd_T35 l0_0 a1_0).f2)] 35 (0, 0)) (by (with_reducible repeat (first | refine qb3 ?_ _ | refine qb5 ?_ | refine qb4 ?_ _)); exact BK136.out)) : gb136 ≠ gb139)); have n13_ := qam ((by rw [hg]; exact Nat.ne_of_gt (blk_lt (g := gb136) (o := .cells #[.int .i64 ((rd_T35 l0_0 a1_0).f0), .int .i64 ((rd_T35 l0_0 a1_0).f1), .int .i64 ((rd_T35 l0_0 a1_0).f2)] 35 (0, 0)) (by (with_reducible repeat (first | refine qb3 ?_ _ | refine qb5 ?_ | refine qb4 ?_ _)); exact BK136.out)) : gb139 ≠ gb136)); have n14_ := qam ((by rw [hg]; exact qnn (blk_lt (g := gb137) (o := .cells #[.int .i64 ((rd_T35 l0_0 a1_1).f0), .int .i64 ((rd_T35 l0_0 a1_1).f1), .int .i64 ((rd_T35 l0_0 a1_1).f2)] 35 (0, 0)) (by (with_reducible repeat (first | refine qb3 ?_ _ | refine qb5 ?_ | refine qb4 ?_ _)); exact BK137.out)) : gb137 ≠ gb139)); have n15_ := qam ((by rw [hg]; exact Nat.ne_of_gt (blk_lt (g := gb137) (o := .cells #[.int .i64 ((rd_T35 l0_0 a1_1).f0), .int .i64 ((rd_T35 l0_0 a1_1).f1), .int .i64 ((rd_T35 l0_0 a1_1).f2)] 35 (0, 0)) (by (with_reducible repeat (first | refine qb3 ?_ _ | refine qb5 ?_ | refine qb4 ?_ _)); exact BK137.out)) : gb139 ≠ gb137)); clear BK132; clear BK133; clear BK136; clear BK137; clear HB; have BK132 := n0_; have BK133 := n1_; have BK136 := n2_; have BK137 := n3_; have HB := n4_; have BK139 := n5_; have GW139 := n6_; have GE139 := n7_; have NB132_139 := n8_; have NB139_132 := n9_; have NB133_139 := n10_; have NB139_133 := n11_; have NB136_139 := n12_; have NB139_136 := n13_; have NB137_139 := n14_; have NB139_137 := n15_; clear n0_ n1_ n2_ n3_ n4_ n5_ n6_ n7_ n8_ n9_ n10_ n11_ n12_ n13_ n14_ n15_; clear hb hbox hg; have hnb223 := NB139_132.out; have hnc223 := NB132_139.out; have hnb224 := NB139_133.out; have hnc224 := NB133_139.out; have hnb225 := NB139_136.out; have hnc225 := NB136_139.out; have hnb226 := NB139_137.out; have hnc226 := NB137_139.out; have hcz227_0 : w222.cell? ⟨gb139, 0, none⟩ = some (.int .i64 0) := (qb1 BK139.out 0).trans rfl; have hcz227_1 : w222.cell? ⟨gb139, 1, none⟩ = some (.int .i64 0) := (qb1 BK139.out 1).trans rfl; have hcz227_2 : w222.cell? ⟨gb139, 2, none⟩ = some (.int .i64 0) := (qb1 BK139.out 2).trans rfl; have hfz227_0 := qb2 BK139.out 0; have hfz227_1 := qb2 BK139.out 1; have hfz227_2 := qb2 BK139.out 2; have hnb228 := NB136_137.out; have hnc228 := NB137_136.out; have hcz229_0 : w222.cell? ⟨gb136, 0, none⟩ = some (.int .i64 ((rd_T35 l0_0 a1_0).f0)) := (qb1 BK136.out 0).trans rfl; have hcz229_1 : w222.cell? ⟨gb136, 1, none⟩ = some (.int .i64 ((rd_T35 l0_0 a1_0).f1)) := (qb1 BK136.out 1).trans rfl; have hcz229_2 : w222.cell? ⟨gb136, 2, none⟩ = some (.int .i64 ((rd_T35 l0_0 a1_0).f2)) := (qb1 BK136.out 2).trans rfl; have hfz229_0 := qb2 BK136.out 0; have hfz229_1 := qb2 BK136.out 1; have hfz229_2 := qb2 BK136.out 2))
              go_ret
              exact ⟨by first | rfl | (simp [errW_none, errW_some] <;> rfl) | (simp [*, errW_none, errW_some] <;> rfl), by repeat (first | (with_reducible first | exact HB.out | apply qw1 | apply qw2 | apply qw3 | refine qw4 ?_ GE132.out | refine qw4 ?_ GE133.out | refine qw4 ?_ GE136.out | refine qw4 ?_ GE137.out | refine qw4 ?_ GE139.out) | exact HB.out)⟩
            ·rw [if_neg c143] at H
             exact absurd H (by simp)
           ·rw [if_neg c142] at H
            exact absurd H (by simp)
    ·rw [if_neg c6] at H
     exact absurd H (by simp)
   ·rw [if_neg c5] at H
    exact absurd H (by simp)
  ·rw [if_neg c4] at H
   exact absurd H (by simp)
 ·rw [if_neg c3] at H
  exact absurd H (by simp)

end Go.Proofs.Ytflpelbhalndcaa.QV
