-- By a program of this session, out of the translation's own print.
import Derived.Test.YtflpelbhalndcaaQVg
import Derived.Test.YtflpelbhalndcaaQVx0
namespace Go.Proofs.Ytflpelbhalndcaa.QV
open Go.RowKit Go.Proofs.YtflpelbhalndcaaW.PrintWords Go.Proofs.YtflpelbhalndcaaW.PrintLast Go.Proofs.YtflpelbhalndcaaW.PrintMore
attribute [local go_sem] max2_int min2_int max_two min_two max_three min_three max_four min_four   -- for this text's walks alone
set_option linter.unusedVariables false
set_option linter.unusedSimpArgs false

/-! ### super_enters: function 177 -/
mutual
def super_enters.l0 : Nat → Int → Int → Int → List (S35) → List (S32) → Int → Option (Bool)
 | 0, _, _, _, _, _, _ => none
 | k + 1, x1, x2, x7, x125000, x125001, x125002 => if x7 < (x125001.length : Int) then (if 0 ≤ x7 then (super_enters.j1 k x1 x2 x7 (((rd_T32 x125001 x7).f0) == x1) x125000 x125001 x125002) else (none)) else (super_enters.j1 k x1 x2 x7 false x125000 x125001 x125002)
def super_enters.j1 : Nat → Int → Int → Int → Bool → List (S35) → List (S32) → Int → Option (Bool)
 | 0, _, _, _, _, _, _, _ => none
 | k + 1, x1, x2, x7, x32, x125000, x125001, x125002 => if x32 = true then (if 0 ≤ x7 then (if x7 < (x125001.length : Int) then (if ((rd_T32 x125001 x7).f2) = 2 then (if ((rd_T32 x125001 x7).f1) ≥ 0 then (if ((rd_T32 x125001 x7).f1) < (x125000.length : Int) then (if 0 ≤ ((rd_T32 x125001 x7).f1) then (if ((rd_T35 x125000 ((rd_T32 x125001 x7).f1)).f0) = x2 then (super_enters.j2 k x1 x2 x7 (((rd_T35 x125000 ((rd_T32 x125001 x7).f1)).f1) == 1) x125000 x125001 x125002) else (super_enters.j2 k x1 x2 x7 false x125000 x125001 x125002)) else (none)) else (super_enters.j2 k x1 x2 x7 false x125000 x125001 x125002)) else (super_enters.j2 k x1 x2 x7 false x125000 x125001 x125002)) else (super_enters.j2 k x1 x2 x7 false x125000 x125001 x125002)) else (none)) else (none)) else (some false)
def super_enters.j2 : Nat → Int → Int → Int → Bool → List (S35) → List (S32) → Int → Option (Bool)
 | 0, _, _, _, _, _, _, _ => none
 | k + 1, x1, x2, x7, x76, x125000, x125001, x125002 => if x76 = true then (some true) else (super_enters.l0 k x1 x2 (wrap64 (x7 + 1)) x125000 x125001 x125002)
end
def super_enters.f (k : Nat) (l0_0 : List (S35)) (l0_1 : List (S32)) (a0_2 : Int) (a1 : Int) (a2 : Int) : Option (Bool) := (api_SEdge_197.f l0_1 a1 0 0 0).bind fun bt125 => (super_enters.l0 k a1 a2 bt125.1 l0_0 l0_1 a0_2)
theorem super_enters.mono_l : ∀ k, (∀ y0 y1 y2 y3 y4 y5, LeO (super_enters.l0 k y0 y1 y2 y3 y4 y5) (super_enters.l0 (k + 1) y0 y1 y2 y3 y4 y5)) ∧ (∀ y0 y1 y2 y3 y4 y5 y6, LeO (super_enters.j1 k y0 y1 y2 y3 y4 y5 y6) (super_enters.j1 (k + 1) y0 y1 y2 y3 y4 y5 y6)) ∧ (∀ y0 y1 y2 y3 y4 y5 y6, LeO (super_enters.j2 k y0 y1 y2 y3 y4 y5 y6) (super_enters.j2 (k + 1) y0 y1 y2 y3 y4 y5 y6))
 | 0 => ⟨fun _ _ _ _ _ _ r h => by simp [super_enters.l0] at h, fun _ _ _ _ _ _ _ r h => by simp [super_enters.j1] at h, fun _ _ _ _ _ _ _ r h => by simp [super_enters.j2] at h⟩
 | k + 1 => by
  obtain ⟨ih0, ih1, ih2⟩ := super_enters.mono_l k
  refine ⟨?_, ?_, ?_⟩
  ·intro y0 y1 y2 y3 y4 y5
   unfold super_enters.l0
   repeat' first
   | (with_reducible exact ih0 _ _ _ _ _ _)
   | (with_reducible exact ih1 _ _ _ _ _ _ _)
   | (with_reducible exact ih2 _ _ _ _ _ _ _)
   | (with_reducible exact LeO.refl _)
   | (with_reducible exact LeO.none _)
   | (with_reducible refine LeO.ite ?_ ?_)
   | (with_reducible refine LeO.bind ?_ (fun _ => ?_))
   | exact ih0 _ _ _ _ _ _
   | exact ih1 _ _ _ _ _ _ _
   | exact ih2 _ _ _ _ _ _ _
   | exact LeO.none _
   | refine LeO.ite ?_ ?_
   | refine LeO.bind ?_ (fun _ => ?_)
  ·intro y0 y1 y2 y3 y4 y5 y6
   unfold super_enters.j1
   repeat' first
   | (with_reducible exact ih0 _ _ _ _ _ _)
   | (with_reducible exact ih1 _ _ _ _ _ _ _)
   | (with_reducible exact ih2 _ _ _ _ _ _ _)
   | (with_reducible exact LeO.refl _)
   | (with_reducible exact LeO.none _)
   | (with_reducible refine LeO.ite ?_ ?_)
   | (with_reducible refine LeO.bind ?_ (fun _ => ?_))
   | exact ih0 _ _ _ _ _ _
   | exact ih1 _ _ _ _ _ _ _
   | exact ih2 _ _ _ _ _ _ _
   | exact LeO.none _
   | refine LeO.ite ?_ ?_
   | refine LeO.bind ?_ (fun _ => ?_)
  ·intro y0 y1 y2 y3 y4 y5 y6
   unfold super_enters.j2
   repeat' first
   | (with_reducible exact ih0 _ _ _ _ _ _)
   | (with_reducible exact ih1 _ _ _ _ _ _ _)
   | (with_reducible exact ih2 _ _ _ _ _ _ _)
   | (with_reducible exact LeO.refl _)
   | (with_reducible exact LeO.none _)
   | (with_reducible refine LeO.ite ?_ ?_)
   | (with_reducible refine LeO.bind ?_ (fun _ => ?_))
   | exact ih0 _ _ _ _ _ _
   | exact ih1 _ _ _ _ _ _ _
   | exact ih2 _ _ _ _ _ _ _
   | exact LeO.none _
   | refine LeO.ite ?_ ?_
   | refine LeO.bind ?_ (fun _ => ?_)
theorem super_enters.mono : ∀ a0 a1 a2 a3 a4 k, LeO (super_enters.f k a0 a1 a2 a3 a4) (super_enters.f (k + 1) a0 a1 a2 a3 a4) := by
 intro a0 a1 a2 a3 a4 k
 obtain ⟨ih0, ih1, ih2⟩ := super_enters.mono_l k
 unfold super_enters.f
 repeat' first
   | (with_reducible exact ih0 _ _ _ _ _ _)
   | (with_reducible exact ih1 _ _ _ _ _ _ _)
   | (with_reducible exact ih2 _ _ _ _ _ _ _)
   | (with_reducible exact LeO.refl _)
   | (with_reducible exact LeO.none _)
   | (with_reducible refine LeO.ite ?_ ?_)
   | (with_reducible refine LeO.bind ?_ (fun _ => ?_))
   | exact ih0 _ _ _ _ _ _
   | exact ih1 _ _ _ _ _ _ _
   | exact ih2 _ _ _ _ _ _ _
   | exact LeO.none _
   | refine LeO.ite ?_ ?_
   | refine LeO.bind ?_ (fun _ => ?_)
set_option maxHeartbeats 8000000 in
set_option maxRecDepth 100000 in
theorem super_enters.calls (k : Nat) (A0_0 : Option Addr) (c0_0 : Nat) (l0_0 : List (S35)) (A0_1 : Option Addr) (c0_1 : Nat) (l0_1 : List (S32)) (a0_2 : Int) (a1 : Int) (a2 : Int) (r : Bool) (w : World) (hr0_0 : Kd.C k35 w A0_0 l0_0.length l0_0) (hc0_0 : l0_0.length ≤ c0_0) (hr0_1 : Kd.C k32 w A0_1 l0_1.length l0_1) (hc0_1 : l0_1.length ≤ c0_1) (h : super_enters.f k l0_0 l0_1 a0_2 a1 a2 = some r) :
  Calls Try.prog 177 #[.agg #[.slice A0_0 l0_0.length c0_0, .slice A0_1 l0_1.length c0_1, .int .i64 a0_2], .int .i64 a1, .int .i64 a2] w fun e w' => e = .returned (.bool r) ∧ Below w.heap.size w w' := by
 have hu25 := Try.underlying25
 have hu32 := Try.underlying32
 have HR0_0 := qam hr0_0
 have HC0_0 := qam hc0_0
 clear hr0_0 hc0_0
 have HR0_1 := qam hr0_1
 have HC0_1 := qam hc0_1
 clear hr0_1 hc0_1
 have HB := qam (Below.refl w.heap.size w)
 have H : ((api_SEdge_197.f l0_1 a1 0 0 0).bind fun bt125 => (super_enters.l0 k a1 a2 bt125.1 l0_0 l0_1 a0_2)) = some r := h
 clear h
 replace H := Option.bind_eq_some_iff.mp H
 obtain ⟨⟨t125, t126⟩, A40, H⟩ := H
 replace H : (super_enters.l0 k a1 a2 t125 l0_0 l0_1 a0_2) = some r := H
 have A4 := qam A40
 clear A40
 have H' := qam H
 clear H
 go_enter Try.func177, Try.ntmps177
 go_wp2_with (first | ((with_reducible refine gate_dst (N := 3) rfl ?_); (try (refine gate_guard (by rfl) ?_; dsimp only)); refine box_event ?hg (N := 3) ?hd (cs := #[.slice A0_0 l0_0.length c0_0, .slice A0_1 l0_1.length c0_1, .int .i64 a0_2]) (t := 25) ?hr ?_; (case hd => rfl); (case hg => rfl); (case hr => first | (go_simp; done) | (go_simp; rfl)); intro gb124 hg w5 hbox hb; have n0_ := qam (qw6 (by repeat (first | (with_reducible first | exact HB.out | apply qw1 | apply qw2 | apply qw3) | exact HB.out)) hb); have n1_ := qam (hbox); have n2_ := qam ((by rw [hg]; exact (qw5 (by repeat (first | (with_reducible first | exact HB.out | apply qw1 | apply qw2 | apply qw3) | exact HB.out))) : w.heap.size ≤ gb124)); have n3_ := qam ((by rw [hg]; exact (qw5 (by repeat (first | (with_reducible first | exact HB.out | apply qw1 | apply qw2 | apply qw3) | exact HB.out))) : w.heap.size ≤ gb124)); clear HB; have HB := n0_; have BK124 := n1_; have GW124 := n2_; have GE124 := n3_; clear n0_ n1_ n2_ n3_; clear hb hbox hg; have hcz6_0 : w5.cell? ⟨gb124, 0, none⟩ = some (.slice A0_0 l0_0.length c0_0) := (qb1 BK124.out 0).trans rfl; have hcz6_1 : w5.cell? ⟨gb124, 1, none⟩ = some (.slice A0_1 l0_1.length c0_1) := (qb1 BK124.out 1).trans rfl; have hcz6_2 : w5.cell? ⟨gb124, 2, none⟩ = some (.int .i64 a0_2) := (qb1 BK124.out 2).trans rfl; have hfz6_0 := qb2 BK124.out 0; have hfz6_1 := qb2 BK124.out 1; have hfz6_2 := qb2 BK124.out 2) | ((with_reducible refine gate_callee (f := 197) rfl ?_); refine goesL_ (some 15) rfl rfl Try.func197 (by kernel_rfl) rfl #[.slice A0_1 l0_1.length c0_1, .agg #[.int .i64 a1, .int .i64 0, .int .i64 0, .int .i64 0], .func (.func 198) #[] #[]] rfl (by (try simp only [List.map_toArray, List.map_cons, List.map_nil]); first | done | rfl | (simp only [List.length_drop, List.length_take]; rfl)) ?_; (with_reducible refine (api_SEdge_197.calls _ _ l0_1 a1 0 0 0 t125 t126 _ ?side1 ?side2 A4.out).mono ?_); (case side1 => repeat (first | exact (qk4 HR0_1.out HB.out) | (with_reducible refine Kd.C_alloc ?_ _) | (with_reducible refine Kd.C_drewN ?_ _) | (with_reducible refine Kd.C_drew ?_))); (case side2 => exact HC0_1.out); rintro e w7 ⟨rfl, hb⟩; refine ⟨_, rfl, ?_⟩; have n0_ := qam (blk_below (g := gb124) (o := .cells #[.slice A0_0 l0_0.length c0_0, .slice A0_1 l0_1.length c0_1, .int .i64 a0_2] 25 (0, 0)) (by (with_reducible repeat (first | refine qb3 ?_ _ | refine qb5 ?_ | refine qb4 ?_ _)); exact BK124.out) hb); have n1_ := qam (qw6 (by repeat (first | (with_reducible first | exact HB.out | apply qw1 | apply qw2 | apply qw3 | refine qw4 ?_ GE124.out) | exact HB.out)) hb); clear BK124; clear HB; have BK124 := n0_; have HB := n1_; clear n0_ n1_; (try clear hb); (try clear hb2); (try clear hk); (try clear hi)))
 go_loopg [7] k (fun kq v7 w' => ∃ (x7_1 : Int), v7 = .int .i64 x7_1 ∧ Aside0 (super_enters.l0 kq a1 a2 x7_1 l0_0 l0_1 a0_2 = some r) ∧ Aside0 (kq ≤ k) ∧ Aside0 (w'.heap[gb124]? = some (.cells #[(.slice A0_0 l0_0.length c0_0), (.slice A0_1 l0_1.length c0_1), .int .i64 a0_2] 25 (0, 0))) ∧ Aside0 (Below w.heap.size w w'))
 case atStart => exact ⟨(t125), (by first | rfl | (simp; done) | (simp [*]; done)), H', ⟨Nat.le_refl _⟩, ⟨by (with_reducible repeat (first | refine qb3 ?_ _ | refine qb5 ?_ | refine qb4 ?_ _)); exact BK124.out⟩, ⟨by repeat (first | (with_reducible first | exact HB.out | apply qw1 | apply qw2 | apply qw3 | refine qw4 ?_ GE124.out) | exact HB.out)⟩⟩
 case round =>
  clear H'
  try clear c1
  try clear p2
  try clear hcz6_0
  try clear hcz6_1
  try clear hcz6_2
  try clear hfz6_0
  try clear hfz6_1
  try clear hfz6_2
  obtain ⟨x7_1, rfl, HA, HK1, BK124, HB⟩ := hrel
  cases gk with
  | zero => exact absurd HA.out (by simp [super_enters.l0])
  | succ k1 =>
   have H := HA.out
   clear HA
   simp only [super_enters.l0] at H
   have HC8 := qam H
   clear H
   go_upto_region 2 with (fail)
   go_cut [32] (fun v32 wc => ∃ (kq : Nat) (x32_7 : Bool), v32 = .bool x32_7 ∧ Aside0 (super_enters.j1 kq a1 a2 x7_1 x32_7 l0_0 l0_1 a0_2 = some r) ∧ Aside0 (kq ≤ k1) ∧ Aside0 (wc.heap[gb124]? = some (.cells #[(.slice A0_0 l0_0.length c0_0), (.slice A0_1 l0_1.length c0_1), .int .i64 a0_2] 25 (0, 0))) ∧ Aside0 (Below w.heap.size w wc))
   case first =>
    have H := HC8.out
    clear HC8
    by_cases c9 : x7_1 < (l0_1.length : Int)
    ·rw [if_pos c9] at H
     have c9b0 : decide (x7_1 < (l0_1.length : Int)) = true := decide_eq_true c9
     clear c9
     (first | rw [c9b0] | (simp only [i64_w, i32_w]; rw [c9b0]) | skip)
     by_cases c10 : 0 ≤ x7_1
     ·rw [if_pos c10] at H
      have c10b0 : decide (0 ≤ x7_1) = true := decide_eq_true c10
      clear c10
      have H' := qam H
      clear H
      have hcz11_0 : wr.cell? ⟨gb124, 0, none⟩ = some (.slice A0_0 l0_0.length c0_0) := (qb1 BK124.out 0).trans rfl
      have hcz11_1 : wr.cell? ⟨gb124, 1, none⟩ = some (.slice A0_1 l0_1.length c0_1) := (qb1 BK124.out 1).trans rfl
      have hcz11_2 : wr.cell? ⟨gb124, 2, none⟩ = some (.int .i64 a0_2) := (qb1 BK124.out 2).trans rfl
      have hfz11_0 := qb2 BK124.out 0
      have hfz11_1 := qb2 BK124.out 1
      have hfz11_2 := qb2 BK124.out 2
      have p127 : 0 ≤ (x7_1 : Int) := of_decide_eq_true (by first | (with_reducible assumption) | assumption)
      have q127 : x7_1 < (l0_1.length : Int) := of_decide_eq_true (by first | (with_reducible assumption) | assumption)
      obtain ⟨ad127, e127, hx127_0, hx127_1, hx127_2, hx127_3⟩ := at_T32 HR0_1.out x7_1 p127 q127
      cases e127
      replace hx127_0 := (HB.out.cell (qbl w _ hx127_0)).trans hx127_0
      replace hx127_1 := (HB.out.cell (qbl w _ hx127_1)).trans hx127_1
      replace hx127_2 := (HB.out.cell (qbl w _ hx127_2)).trans hx127_2
      replace hx127_3 := (HB.out.cell (qbl w _ hx127_3)).trans hx127_3
      replace p127 := eq_true p127
      replace q127 := eq_true q127
      go_wp2
      go_meet
      case rel => exact ⟨_, ((((rd_T32 l0_1 x7_1).f0) == a1)), (by first | rfl | (simp; done) | (simp [*]; done)), H', ⟨by have := HK1.out; first | omega | exact Nat.le_refl _⟩, ⟨by (with_reducible repeat (first | refine qb3 ?_ _ | refine qb5 ?_ | refine qb4 ?_ _)); exact BK124.out⟩, ⟨by repeat (first | (with_reducible first | exact HB.out | apply qw1 | apply qw2 | apply qw3 | refine qw4 ?_ GE124.out) | exact HB.out)⟩⟩
     ·rw [if_neg c10] at H
      exact absurd H (by simp)
    ·rw [if_neg c9] at H
     have c9b0 : decide (x7_1 < (l0_1.length : Int)) = false := decide_eq_false c9
     clear c9
     (first | rw [c9b0] | (simp only [i64_w, i32_w]; rw [c9b0]) | skip)
     have H' := qam H
     clear H
     have hcz12_0 : wr.cell? ⟨gb124, 0, none⟩ = some (.slice A0_0 l0_0.length c0_0) := (qb1 BK124.out 0).trans rfl
     have hcz12_1 : wr.cell? ⟨gb124, 1, none⟩ = some (.slice A0_1 l0_1.length c0_1) := (qb1 BK124.out 1).trans rfl
     have hcz12_2 : wr.cell? ⟨gb124, 2, none⟩ = some (.int .i64 a0_2) := (qb1 BK124.out 2).trans rfl
     have hfz12_0 := qb2 BK124.out 0
     have hfz12_1 := qb2 BK124.out 1
     have hfz12_2 := qb2 BK124.out 2
     go_wp2
     go_meet
     case rel => exact ⟨_, (false), (by first | rfl | (simp; done) | (simp [*]; done)), H', ⟨by have := HK1.out; first | omega | exact Nat.le_refl _⟩, ⟨by (with_reducible repeat (first | refine qb3 ?_ _ | refine qb5 ?_ | refine qb4 ?_ _)); exact BK124.out⟩, ⟨by repeat (first | (with_reducible first | exact HB.out | apply qw1 | apply qw2 | apply qw3 | refine qw4 ?_ GE124.out) | exact HB.out)⟩⟩
   case rest =>
    clear HC8
    try clear c1
    try clear p1
    try clear q1
    try clear hx1
    try clear p2
    try clear c9
    try clear c9b0
    try clear c10
    try clear c10b0
    try clear p12
    try clear q12
    try clear hx12
    try clear hcz11_0
    try clear hcz11_1
    try clear hcz11_2
    try clear hcz12_0
    try clear hcz12_1
    try clear hcz12_2
    try clear hcz6_0
    try clear hcz6_1
    try clear hcz6_2
    try clear hfz11_0
    try clear hfz11_1
    try clear hfz11_2
    try clear hfz12_0
    try clear hfz12_1
    try clear hfz12_2
    try clear hfz6_0
    try clear hfz6_1
    try clear hfz6_2
    try clear hx127_0
    try clear hx127_1
    try clear hx127_2
    try clear hx127_3
    try clear p127
    try clear p2
    try clear q127
    obtain ⟨kq, x32_7, rfl, HA, HJ7, BK124, HB⟩ := hcut
    cases kq with
    | zero => exact absurd HA.out (by simp [super_enters.j1])
    | succ kj7 =>
     have H := HA.out
     clear HA
     simp only [super_enters.j1] at H
     by_cases c13 : x32_7 = true
     ·subst c13
      have H1 : (if 0 ≤ x7_1 then (if x7_1 < (l0_1.length : Int) then (if ((rd_T32 l0_1 x7_1).f2) = 2 then (if ((rd_T32 l0_1 x7_1).f1) ≥ 0 then (if ((rd_T32 l0_1 x7_1).f1) < (l0_0.length : Int) then (if 0 ≤ ((rd_T32 l0_1 x7_1).f1) then (if ((rd_T35 l0_0 ((rd_T32 l0_1 x7_1).f1)).f0) = a2 then (super_enters.j2 kj7 a1 a2 x7_1 (((rd_T35 l0_0 ((rd_T32 l0_1 x7_1).f1)).f1) == 1) l0_0 l0_1 a0_2) else (super_enters.j2 kj7 a1 a2 x7_1 false l0_0 l0_1 a0_2)) else (none)) else (super_enters.j2 kj7 a1 a2 x7_1 false l0_0 l0_1 a0_2)) else (super_enters.j2 kj7 a1 a2 x7_1 false l0_0 l0_1 a0_2)) else (super_enters.j2 kj7 a1 a2 x7_1 false l0_0 l0_1 a0_2)) else (none)) else (none)) = some r := by rw [if_pos rfl] at H; exact H
      clear H
      have H := H1
      clear H1
      by_cases c14 : 0 ≤ x7_1
      ·rw [if_pos c14] at H
       have c14b0 : decide (0 ≤ x7_1) = true := decide_eq_true c14
       clear c14
       by_cases c15 : x7_1 < (l0_1.length : Int)
       ·rw [if_pos c15] at H
        have c15b0 : decide (x7_1 < (l0_1.length : Int)) = true := decide_eq_true c15
        clear c15
        have HC16 := qam H
        clear H
        have hcz17_0 : wc.cell? ⟨gb124, 0, none⟩ = some (.slice A0_0 l0_0.length c0_0) := (qb1 BK124.out 0).trans rfl
        have hcz17_1 : wc.cell? ⟨gb124, 1, none⟩ = some (.slice A0_1 l0_1.length c0_1) := (qb1 BK124.out 1).trans rfl
        have hcz17_2 : wc.cell? ⟨gb124, 2, none⟩ = some (.int .i64 a0_2) := (qb1 BK124.out 2).trans rfl
        have hfz17_0 := qb2 BK124.out 0
        have hfz17_1 := qb2 BK124.out 1
        have hfz17_2 := qb2 BK124.out 2
        have p128 : 0 ≤ (x7_1 : Int) := of_decide_eq_true (by first | (with_reducible assumption) | assumption)
        have q128 : x7_1 < (l0_1.length : Int) := of_decide_eq_true (by first | (with_reducible assumption) | assumption)
        obtain ⟨ad128, e128, hx128_0, hx128_1, hx128_2, hx128_3⟩ := at_T32 HR0_1.out x7_1 p128 q128
        cases e128
        replace hx128_0 := (HB.out.cell (qbl w _ hx128_0)).trans hx128_0
        replace hx128_1 := (HB.out.cell (qbl w _ hx128_1)).trans hx128_1
        replace hx128_2 := (HB.out.cell (qbl w _ hx128_2)).trans hx128_2
        replace hx128_3 := (HB.out.cell (qbl w _ hx128_3)).trans hx128_3
        replace p128 := eq_true p128
        replace q128 := eq_true q128
        go_upto_region 5 with (first | ((with_reducible refine gate_dst (N := 9) rfl ?_); (try (refine gate_guard (by rfl) ?_; dsimp only)); refine box_event ?hg (N := 9) ?hd (cs := #[.int .i64 0, .int .i64 0, .int .i64 0, .int .i64 0]) (t := 32) ?hr ?_; (case hd => rfl); (case hg => rfl); (case hr => first | (go_simp; done) | (go_simp; rfl)); intro gb129 hg w18 hbox hb; have n0_ := qam (blk_below (g := gb124) (o := .cells #[.slice A0_0 l0_0.length c0_0, .slice (some ad128) l0_1.length c0_1, .int .i64 a0_2] 25 (0, 0)) (by (with_reducible repeat (first | refine qb3 ?_ _ | refine qb5 ?_ | refine qb4 ?_ _)); exact BK124.out) hb); have n1_ := qam (qw6 (by repeat (first | (with_reducible first | exact HB.out | apply qw1 | apply qw2 | apply qw3 | refine qw4 ?_ GE124.out) | exact HB.out)) hb); have n2_ := qam (hbox); have n3_ := qam ((by rw [hg]; exact (qw5 (by repeat (first | (with_reducible first | exact HB.out | apply qw1 | apply qw2 | apply qw3 | refine qw4 ?_ GE124.out) | exact HB.out))) : w.heap.size ≤ gb129)); have n4_ := qam ((by rw [hg]; exact (qw5 (by repeat (first | (with_reducible first | exact HB.out | apply qw1 | apply qw2 | apply qw3 | refine qw4 ?_ GE124.out) | exact HB.out))) : w.heap.size ≤ gb129)); have n5_ := qam ((by rw [hg]; exact qnn (blk_lt (g := gb124) (o := .cells #[.slice A0_0 l0_0.length c0_0, .slice (some ad128) l0_1.length c0_1, .int .i64 a0_2] 25 (0, 0)) (by (with_reducible repeat (first | refine qb3 ?_ _ | refine qb5 ?_ | refine qb4 ?_ _)); exact BK124.out)) : gb124 ≠ gb129)); have n6_ := qam ((by rw [hg]; exact Nat.ne_of_gt (blk_lt (g := gb124) (o := .cells #[.slice A0_0 l0_0.length c0_0, .slice (some ad128) l0_1.length c0_1, .int .i64 a0_2] 25 (0, 0)) (by (with_reducible repeat (first | refine qb3 ?_ _ | refine qb5 ?_ | refine qb4 ?_ _)); exact BK124.out)) : gb129 ≠ gb124)); clear BK124; clear HB; have BK124 := n0_; have HB := n1_; have BK129 := n2_; have GW129 := n3_; have GE129 := n4_; have NB124_129 := n5_; have NB129_124 := n6_; clear n0_ n1_ n2_ n3_ n4_ n5_ n6_; clear hb hbox hg; have hnb19 := NB129_124.out; have hnc19 := NB124_129.out; have hcz20_0 : w18.cell? ⟨gb129, 0, none⟩ = some (.int .i64 0) := (qb1 BK129.out 0).trans rfl; have hcz20_1 : w18.cell? ⟨gb129, 1, none⟩ = some (.int .i64 0) := (qb1 BK129.out 1).trans rfl; have hcz20_2 : w18.cell? ⟨gb129, 2, none⟩ = some (.int .i64 0) := (qb1 BK129.out 2).trans rfl; have hcz20_3 : w18.cell? ⟨gb129, 3, none⟩ = some (.int .i64 0) := (qb1 BK129.out 3).trans rfl; have hfz20_0 := qb2 BK129.out 0; have hfz20_1 := qb2 BK129.out 1; have hfz20_2 := qb2 BK129.out 2; have hfz20_3 := qb2 BK129.out 3))
        (try simp only [Act.put, qs1, qs2, qs3])
        go_cut [76] (fun v76 wc => ∃ (kq : Nat) (x76_15 : Bool), v76 = .bool x76_15 ∧ Aside0 (super_enters.j2 kq a1 a2 x7_1 x76_15 l0_0 l0_1 a0_2 = some r) ∧ Aside0 (kq ≤ kj7) ∧ Aside0 (wc.heap[gb124]? = some (.cells #[(.slice A0_0 l0_0.length c0_0), (.slice (some ad128) l0_1.length c0_1), .int .i64 a0_2] 25 (0, 0))) ∧ Aside0 (wc.heap[gb129]? = some (.cells #[.int .i64 ((rd_T32 l0_1 x7_1).f0), .int .i64 ((rd_T32 l0_1 x7_1).f1), .int .i64 ((rd_T32 l0_1 x7_1).f2), .int .i64 ((rd_T32 l0_1 x7_1).f3)] 32 (0, 0))) ∧ Aside0 (Below w.heap.size w wc))
        case first =>
         have H := HC16.out
         clear HC16
         by_cases c21 : ((rd_T32 l0_1 x7_1).f2) = 2
         ·rw [if_pos c21] at H
          have c21b0 : (((rd_T32 l0_1 x7_1).f2) == 2) = true := beq_iff_eq.mpr c21
          have c21b1 : (((rd_T32 l0_1 x7_1).f2) != 2) = false := bne_eq_false_iff_eq.mpr c21
          clear c21
          (first | rw [c21b0] | (simp only [i64_w, i32_w]; rw [c21b0]) | skip)
          by_cases c22 : ((rd_T32 l0_1 x7_1).f1) ≥ 0
          ·rw [if_pos c22] at H
           have c22b0 : decide (0 ≤ ((rd_T32 l0_1 x7_1).f1)) = true := decide_eq_true c22
           clear c22
           by_cases c23 : ((rd_T32 l0_1 x7_1).f1) < (l0_0.length : Int)
           ·rw [if_pos c23] at H
            have c23b0 : decide (((rd_T32 l0_1 x7_1).f1) < (l0_0.length : Int)) = true := decide_eq_true c23
            clear c23
            by_cases c24 : 0 ≤ ((rd_T32 l0_1 x7_1).f1)
            ·rw [if_pos c24] at H
             have c24b0 : decide (0 ≤ ((rd_T32 l0_1 x7_1).f1)) = true := decide_eq_true c24
             clear c24
             by_cases c25 : ((rd_T35 l0_0 ((rd_T32 l0_1 x7_1).f1)).f0) = a2
             ·rw [if_pos c25] at H
              have c25b0 : (((rd_T35 l0_0 ((rd_T32 l0_1 x7_1).f1)).f0) == a2) = true := beq_iff_eq.mpr c25
              have c25b1 : (((rd_T35 l0_0 ((rd_T32 l0_1 x7_1).f1)).f0) != a2) = false := bne_eq_false_iff_eq.mpr c25
              clear c25
              have H' := qam H
              clear H
              have hnb26 := NB129_124.out
              have hnc26 := NB124_129.out
              have hcz27_0 : w18.cell? ⟨gb129, 0, none⟩ = some (.int .i64 0) := (qb1 BK129.out 0).trans rfl
              have hcz27_1 : w18.cell? ⟨gb129, 1, none⟩ = some (.int .i64 0) := (qb1 BK129.out 1).trans rfl
              have hcz27_2 : w18.cell? ⟨gb129, 2, none⟩ = some (.int .i64 0) := (qb1 BK129.out 2).trans rfl
              have hcz27_3 : w18.cell? ⟨gb129, 3, none⟩ = some (.int .i64 0) := (qb1 BK129.out 3).trans rfl
              have hfz27_0 := qb2 BK129.out 0
              have hfz27_1 := qb2 BK129.out 1
              have hfz27_2 := qb2 BK129.out 2
              have hfz27_3 := qb2 BK129.out 3
              have hcz28_0 : w18.cell? ⟨gb124, 0, none⟩ = some (.slice A0_0 l0_0.length c0_0) := (qb1 BK124.out 0).trans rfl
              have hcz28_1 : w18.cell? ⟨gb124, 1, none⟩ = some (.slice (some ad128) l0_1.length c0_1) := (qb1 BK124.out 1).trans rfl
              have hcz28_2 : w18.cell? ⟨gb124, 2, none⟩ = some (.int .i64 a0_2) := (qb1 BK124.out 2).trans rfl
              have hfz28_0 := qb2 BK124.out 0
              have hfz28_1 := qb2 BK124.out 1
              have hfz28_2 := qb2 BK124.out 2
              have p130 : 0 ≤ (((rd_T32 l0_1 x7_1).f1) : Int) := of_decide_eq_true (by first | (with_reducible assumption) | assumption)
              have q130 : ((rd_T32 l0_1 x7_1).f1) < (l0_0.length : Int) := of_decide_eq_true (by first | (with_reducible assumption) | assumption)
              obtain ⟨ad130, e130, hx130_0, hx130_1, hx130_2⟩ := at_T35 HR0_0.out ((rd_T32 l0_1 x7_1).f1) p130 q130
              cases e130
              have hn130_0 : ad130.block ≠ gb129 := qnn (qnl (by have := qbl _ _ hx130_0; first | rwa [add_block] at this | exact this) GW129.out)
              have hn130_1 : ad130.block ≠ gb129 := qnn (qnl (by have := qbl _ _ hx130_0; first | rwa [add_block] at this | exact this) GW129.out)
              have hn130_2 : ad130.block ≠ gb129 := qnn (qnl (by have := qbl _ _ hx130_0; first | rwa [add_block] at this | exact this) GW129.out)
              have hn130_3 : ad130.block ≠ gb129 := qnn (qnl (by have := qbl _ _ hx130_0; first | rwa [add_block] at this | exact this) GW129.out)
              replace hx130_0 := (HB.out.cell (qbl w _ hx130_0)).trans hx130_0
              replace hx130_1 := (HB.out.cell (qbl w _ hx130_1)).trans hx130_1
              replace hx130_2 := (HB.out.cell (qbl w _ hx130_2)).trans hx130_2
              replace hx130_0 := (cell_far (p := ⟨gb129, 0, none⟩) (by first | (rw [add_block]; exact hn130_0) | (show (Addr.add _ _).block ≠ _; rw [add_block]; exact hn130_0) | exact hn130_0) (.int .i64 ((rd_T32 l0_1 x7_1).f0))).trans hx130_0
              replace hx130_1 := (cell_far (p := ⟨gb129, 0, none⟩) (by first | (rw [add_block]; exact hn130_0) | (show (Addr.add _ _).block ≠ _; rw [add_block]; exact hn130_0) | exact hn130_0) (.int .i64 ((rd_T32 l0_1 x7_1).f0))).trans hx130_1
              replace hx130_2 := (cell_far (p := ⟨gb129, 0, none⟩) (by first | (rw [add_block]; exact hn130_0) | (show (Addr.add _ _).block ≠ _; rw [add_block]; exact hn130_0) | exact hn130_0) (.int .i64 ((rd_T32 l0_1 x7_1).f0))).trans hx130_2
              replace hx130_0 := (cell_far (p := ⟨gb129, 1, none⟩) (by first | (rw [add_block]; exact hn130_1) | (show (Addr.add _ _).block ≠ _; rw [add_block]; exact hn130_1) | exact hn130_1) (.int .i64 ((rd_T32 l0_1 x7_1).f1))).trans hx130_0
              replace hx130_1 := (cell_far (p := ⟨gb129, 1, none⟩) (by first | (rw [add_block]; exact hn130_1) | (show (Addr.add _ _).block ≠ _; rw [add_block]; exact hn130_1) | exact hn130_1) (.int .i64 ((rd_T32 l0_1 x7_1).f1))).trans hx130_1
              replace hx130_2 := (cell_far (p := ⟨gb129, 1, none⟩) (by first | (rw [add_block]; exact hn130_1) | (show (Addr.add _ _).block ≠ _; rw [add_block]; exact hn130_1) | exact hn130_1) (.int .i64 ((rd_T32 l0_1 x7_1).f1))).trans hx130_2
              replace hx130_0 := (cell_far (p := ⟨gb129, 2, none⟩) (by first | (rw [add_block]; exact hn130_2) | (show (Addr.add _ _).block ≠ _; rw [add_block]; exact hn130_2) | exact hn130_2) (.int .i64 ((rd_T32 l0_1 x7_1).f2))).trans hx130_0
              replace hx130_1 := (cell_far (p := ⟨gb129, 2, none⟩) (by first | (rw [add_block]; exact hn130_2) | (show (Addr.add _ _).block ≠ _; rw [add_block]; exact hn130_2) | exact hn130_2) (.int .i64 ((rd_T32 l0_1 x7_1).f2))).trans hx130_1
              replace hx130_2 := (cell_far (p := ⟨gb129, 2, none⟩) (by first | (rw [add_block]; exact hn130_2) | (show (Addr.add _ _).block ≠ _; rw [add_block]; exact hn130_2) | exact hn130_2) (.int .i64 ((rd_T32 l0_1 x7_1).f2))).trans hx130_2
              replace hx130_0 := (cell_far (p := ⟨gb129, 3, none⟩) (by first | (rw [add_block]; exact hn130_3) | (show (Addr.add _ _).block ≠ _; rw [add_block]; exact hn130_3) | exact hn130_3) (.int .i64 ((rd_T32 l0_1 x7_1).f3))).trans hx130_0
              replace hx130_1 := (cell_far (p := ⟨gb129, 3, none⟩) (by first | (rw [add_block]; exact hn130_3) | (show (Addr.add _ _).block ≠ _; rw [add_block]; exact hn130_3) | exact hn130_3) (.int .i64 ((rd_T32 l0_1 x7_1).f3))).trans hx130_1
              replace hx130_2 := (cell_far (p := ⟨gb129, 3, none⟩) (by first | (rw [add_block]; exact hn130_3) | (show (Addr.add _ _).block ≠ _; rw [add_block]; exact hn130_3) | exact hn130_3) (.int .i64 ((rd_T32 l0_1 x7_1).f3))).trans hx130_2
              clear hn130_0
              clear hn130_1
              clear hn130_2
              clear hn130_3
              replace p130 := eq_true p130
              replace q130 := eq_true q130
              have p131 : 0 ≤ (((rd_T32 l0_1 x7_1).f1) : Int) := of_decide_eq_true (by first | (with_reducible assumption) | assumption)
              have q131 : ((rd_T32 l0_1 x7_1).f1) < (l0_0.length : Int) := of_decide_eq_true (by first | (with_reducible assumption) | assumption)
              obtain ⟨ad131, e131, hx131_0, hx131_1, hx131_2⟩ := at_T35 HR0_0.out ((rd_T32 l0_1 x7_1).f1) p131 q131
              obtain rfl : ad130 = ad131 := (by injection e131)
              have hn131_0 : ad130.block ≠ gb129 := qnn (qnl (by have := qbl _ _ hx131_0; first | rwa [add_block] at this | exact this) GW129.out)
              have hn131_1 : ad130.block ≠ gb129 := qnn (qnl (by have := qbl _ _ hx131_0; first | rwa [add_block] at this | exact this) GW129.out)
              have hn131_2 : ad130.block ≠ gb129 := qnn (qnl (by have := qbl _ _ hx131_0; first | rwa [add_block] at this | exact this) GW129.out)
              have hn131_3 : ad130.block ≠ gb129 := qnn (qnl (by have := qbl _ _ hx131_0; first | rwa [add_block] at this | exact this) GW129.out)
              replace hx131_0 := (HB.out.cell (qbl w _ hx131_0)).trans hx131_0
              replace hx131_1 := (HB.out.cell (qbl w _ hx131_1)).trans hx131_1
              replace hx131_2 := (HB.out.cell (qbl w _ hx131_2)).trans hx131_2
              replace hx131_0 := (cell_far (p := ⟨gb129, 0, none⟩) (by first | (rw [add_block]; exact hn131_0) | (show (Addr.add _ _).block ≠ _; rw [add_block]; exact hn131_0) | exact hn131_0) (.int .i64 ((rd_T32 l0_1 x7_1).f0))).trans hx131_0
              replace hx131_1 := (cell_far (p := ⟨gb129, 0, none⟩) (by first | (rw [add_block]; exact hn131_0) | (show (Addr.add _ _).block ≠ _; rw [add_block]; exact hn131_0) | exact hn131_0) (.int .i64 ((rd_T32 l0_1 x7_1).f0))).trans hx131_1
              replace hx131_2 := (cell_far (p := ⟨gb129, 0, none⟩) (by first | (rw [add_block]; exact hn131_0) | (show (Addr.add _ _).block ≠ _; rw [add_block]; exact hn131_0) | exact hn131_0) (.int .i64 ((rd_T32 l0_1 x7_1).f0))).trans hx131_2
              replace hx131_0 := (cell_far (p := ⟨gb129, 1, none⟩) (by first | (rw [add_block]; exact hn131_1) | (show (Addr.add _ _).block ≠ _; rw [add_block]; exact hn131_1) | exact hn131_1) (.int .i64 ((rd_T32 l0_1 x7_1).f1))).trans hx131_0
              replace hx131_1 := (cell_far (p := ⟨gb129, 1, none⟩) (by first | (rw [add_block]; exact hn131_1) | (show (Addr.add _ _).block ≠ _; rw [add_block]; exact hn131_1) | exact hn131_1) (.int .i64 ((rd_T32 l0_1 x7_1).f1))).trans hx131_1
              replace hx131_2 := (cell_far (p := ⟨gb129, 1, none⟩) (by first | (rw [add_block]; exact hn131_1) | (show (Addr.add _ _).block ≠ _; rw [add_block]; exact hn131_1) | exact hn131_1) (.int .i64 ((rd_T32 l0_1 x7_1).f1))).trans hx131_2
              replace hx131_0 := (cell_far (p := ⟨gb129, 2, none⟩) (by first | (rw [add_block]; exact hn131_2) | (show (Addr.add _ _).block ≠ _; rw [add_block]; exact hn131_2) | exact hn131_2) (.int .i64 ((rd_T32 l0_1 x7_1).f2))).trans hx131_0
              replace hx131_1 := (cell_far (p := ⟨gb129, 2, none⟩) (by first | (rw [add_block]; exact hn131_2) | (show (Addr.add _ _).block ≠ _; rw [add_block]; exact hn131_2) | exact hn131_2) (.int .i64 ((rd_T32 l0_1 x7_1).f2))).trans hx131_1
              replace hx131_2 := (cell_far (p := ⟨gb129, 2, none⟩) (by first | (rw [add_block]; exact hn131_2) | (show (Addr.add _ _).block ≠ _; rw [add_block]; exact hn131_2) | exact hn131_2) (.int .i64 ((rd_T32 l0_1 x7_1).f2))).trans hx131_2
              replace hx131_0 := (cell_far (p := ⟨gb129, 3, none⟩) (by first | (rw [add_block]; exact hn131_3) | (show (Addr.add _ _).block ≠ _; rw [add_block]; exact hn131_3) | exact hn131_3) (.int .i64 ((rd_T32 l0_1 x7_1).f3))).trans hx131_0
              replace hx131_1 := (cell_far (p := ⟨gb129, 3, none⟩) (by first | (rw [add_block]; exact hn131_3) | (show (Addr.add _ _).block ≠ _; rw [add_block]; exact hn131_3) | exact hn131_3) (.int .i64 ((rd_T32 l0_1 x7_1).f3))).trans hx131_1
              replace hx131_2 := (cell_far (p := ⟨gb129, 3, none⟩) (by first | (rw [add_block]; exact hn131_3) | (show (Addr.add _ _).block ≠ _; rw [add_block]; exact hn131_3) | exact hn131_3) (.int .i64 ((rd_T32 l0_1 x7_1).f3))).trans hx131_2
              clear hn131_0
              clear hn131_1
              clear hn131_2
              clear hn131_3
              replace p131 := eq_true p131
              replace q131 := eq_true q131
              go_wp2
              go_meet
              case rel => exact ⟨_, ((((rd_T35 l0_0 ((rd_T32 l0_1 x7_1).f1)).f1) == 1)), (by first | rfl | (simp; done) | (simp [*]; done)), H', ⟨by have := HK1.out; have := HJ7.out; first | omega | exact Nat.le_refl _⟩, ⟨by (with_reducible repeat (first | refine qb3 ?_ _ | refine qb5 ?_ | refine qb4 ?_ _)); refine blk_far ?_ NB124_129.out _; (with_reducible repeat (first | refine qb3 ?_ _ | refine qb5 ?_ | refine qb4 ?_ _)); refine blk_far ?_ NB124_129.out _; (with_reducible repeat (first | refine qb3 ?_ _ | refine qb5 ?_ | refine qb4 ?_ _)); refine blk_far ?_ NB124_129.out _; (with_reducible repeat (first | refine qb3 ?_ _ | refine qb5 ?_ | refine qb4 ?_ _)); refine blk_far ?_ NB124_129.out _; (with_reducible repeat (first | refine qb3 ?_ _ | refine qb5 ?_ | refine qb4 ?_ _)); exact BK124.out⟩, ⟨by (with_reducible repeat (first | refine qb3 ?_ _ | refine qb5 ?_ | refine qb4 ?_ _)); refine blk_put (cs := #[.int .i64 ((rd_T32 l0_1 x7_1).f0), .int .i64 ((rd_T32 l0_1 x7_1).f1), .int .i64 ((rd_T32 l0_1 x7_1).f2), .int .i64 0]) ?_ 3 _ rfl; (with_reducible repeat (first | refine qb3 ?_ _ | refine qb5 ?_ | refine qb4 ?_ _)); refine blk_put (cs := #[.int .i64 ((rd_T32 l0_1 x7_1).f0), .int .i64 ((rd_T32 l0_1 x7_1).f1), .int .i64 0, .int .i64 0]) ?_ 2 _ rfl; (with_reducible repeat (first | refine qb3 ?_ _ | refine qb5 ?_ | refine qb4 ?_ _)); refine blk_put (cs := #[.int .i64 ((rd_T32 l0_1 x7_1).f0), .int .i64 0, .int .i64 0, .int .i64 0]) ?_ 1 _ rfl; (with_reducible repeat (first | refine qb3 ?_ _ | refine qb5 ?_ | refine qb4 ?_ _)); refine blk_put (cs := #[.int .i64 0, .int .i64 0, .int .i64 0, .int .i64 0]) ?_ 0 _ rfl; (with_reducible repeat (first | refine qb3 ?_ _ | refine qb5 ?_ | refine qb4 ?_ _)); exact BK129.out⟩, ⟨by repeat (first | (with_reducible first | exact HB.out | apply qw1 | apply qw2 | apply qw3 | refine qw4 ?_ GE124.out | refine qw4 ?_ GE129.out) | exact HB.out)⟩⟩
             ·rw [if_neg c25] at H
              have c25b0 : (((rd_T35 l0_0 ((rd_T32 l0_1 x7_1).f1)).f0) == a2) = false := beq_eq_false_iff_ne.mpr c25
              have c25b1 : (((rd_T35 l0_0 ((rd_T32 l0_1 x7_1).f1)).f0) != a2) = true := bne_iff_ne.mpr c25
              have H' := qam H
              clear H
              have hnb29 := NB129_124.out
              have hnc29 := NB124_129.out
              have hcz30_0 : w18.cell? ⟨gb129, 0, none⟩ = some (.int .i64 0) := (qb1 BK129.out 0).trans rfl
              have hcz30_1 : w18.cell? ⟨gb129, 1, none⟩ = some (.int .i64 0) := (qb1 BK129.out 1).trans rfl
              have hcz30_2 : w18.cell? ⟨gb129, 2, none⟩ = some (.int .i64 0) := (qb1 BK129.out 2).trans rfl
              have hcz30_3 : w18.cell? ⟨gb129, 3, none⟩ = some (.int .i64 0) := (qb1 BK129.out 3).trans rfl
              have hfz30_0 := qb2 BK129.out 0
              have hfz30_1 := qb2 BK129.out 1
              have hfz30_2 := qb2 BK129.out 2
              have hfz30_3 := qb2 BK129.out 3
              have hcz31_0 : w18.cell? ⟨gb124, 0, none⟩ = some (.slice A0_0 l0_0.length c0_0) := (qb1 BK124.out 0).trans rfl
              have hcz31_1 : w18.cell? ⟨gb124, 1, none⟩ = some (.slice (some ad128) l0_1.length c0_1) := (qb1 BK124.out 1).trans rfl
              have hcz31_2 : w18.cell? ⟨gb124, 2, none⟩ = some (.int .i64 a0_2) := (qb1 BK124.out 2).trans rfl
              have hfz31_0 := qb2 BK124.out 0
              have hfz31_1 := qb2 BK124.out 1
              have hfz31_2 := qb2 BK124.out 2
              have p130 : 0 ≤ (((rd_T32 l0_1 x7_1).f1) : Int) := of_decide_eq_true (by first | (with_reducible assumption) | assumption)
              have q130 : ((rd_T32 l0_1 x7_1).f1) < (l0_0.length : Int) := of_decide_eq_true (by first | (with_reducible assumption) | assumption)
              obtain ⟨ad130, e130, hx130_0, hx130_1, hx130_2⟩ := at_T35 HR0_0.out ((rd_T32 l0_1 x7_1).f1) p130 q130
              cases e130
              have hn130_0 : ad130.block ≠ gb129 := qnn (qnl (by have := qbl _ _ hx130_0; first | rwa [add_block] at this | exact this) GW129.out)
              have hn130_1 : ad130.block ≠ gb129 := qnn (qnl (by have := qbl _ _ hx130_0; first | rwa [add_block] at this | exact this) GW129.out)
              have hn130_2 : ad130.block ≠ gb129 := qnn (qnl (by have := qbl _ _ hx130_0; first | rwa [add_block] at this | exact this) GW129.out)
              have hn130_3 : ad130.block ≠ gb129 := qnn (qnl (by have := qbl _ _ hx130_0; first | rwa [add_block] at this | exact this) GW129.out)
              replace hx130_0 := (HB.out.cell (qbl w _ hx130_0)).trans hx130_0
              replace hx130_1 := (HB.out.cell (qbl w _ hx130_1)).trans hx130_1
              replace hx130_2 := (HB.out.cell (qbl w _ hx130_2)).trans hx130_2
              replace hx130_0 := (cell_far (p := ⟨gb129, 0, none⟩) (by first | (rw [add_block]; exact hn130_0) | (show (Addr.add _ _).block ≠ _; rw [add_block]; exact hn130_0) | exact hn130_0) (.int .i64 ((rd_T32 l0_1 x7_1).f0))).trans hx130_0
              replace hx130_1 := (cell_far (p := ⟨gb129, 0, none⟩) (by first | (rw [add_block]; exact hn130_0) | (show (Addr.add _ _).block ≠ _; rw [add_block]; exact hn130_0) | exact hn130_0) (.int .i64 ((rd_T32 l0_1 x7_1).f0))).trans hx130_1
              replace hx130_2 := (cell_far (p := ⟨gb129, 0, none⟩) (by first | (rw [add_block]; exact hn130_0) | (show (Addr.add _ _).block ≠ _; rw [add_block]; exact hn130_0) | exact hn130_0) (.int .i64 ((rd_T32 l0_1 x7_1).f0))).trans hx130_2
              replace hx130_0 := (cell_far (p := ⟨gb129, 1, none⟩) (by first | (rw [add_block]; exact hn130_1) | (show (Addr.add _ _).block ≠ _; rw [add_block]; exact hn130_1) | exact hn130_1) (.int .i64 ((rd_T32 l0_1 x7_1).f1))).trans hx130_0
              replace hx130_1 := (cell_far (p := ⟨gb129, 1, none⟩) (by first | (rw [add_block]; exact hn130_1) | (show (Addr.add _ _).block ≠ _; rw [add_block]; exact hn130_1) | exact hn130_1) (.int .i64 ((rd_T32 l0_1 x7_1).f1))).trans hx130_1
              replace hx130_2 := (cell_far (p := ⟨gb129, 1, none⟩) (by first | (rw [add_block]; exact hn130_1) | (show (Addr.add _ _).block ≠ _; rw [add_block]; exact hn130_1) | exact hn130_1) (.int .i64 ((rd_T32 l0_1 x7_1).f1))).trans hx130_2
              replace hx130_0 := (cell_far (p := ⟨gb129, 2, none⟩) (by first | (rw [add_block]; exact hn130_2) | (show (Addr.add _ _).block ≠ _; rw [add_block]; exact hn130_2) | exact hn130_2) (.int .i64 ((rd_T32 l0_1 x7_1).f2))).trans hx130_0
              replace hx130_1 := (cell_far (p := ⟨gb129, 2, none⟩) (by first | (rw [add_block]; exact hn130_2) | (show (Addr.add _ _).block ≠ _; rw [add_block]; exact hn130_2) | exact hn130_2) (.int .i64 ((rd_T32 l0_1 x7_1).f2))).trans hx130_1
              replace hx130_2 := (cell_far (p := ⟨gb129, 2, none⟩) (by first | (rw [add_block]; exact hn130_2) | (show (Addr.add _ _).block ≠ _; rw [add_block]; exact hn130_2) | exact hn130_2) (.int .i64 ((rd_T32 l0_1 x7_1).f2))).trans hx130_2
              replace hx130_0 := (cell_far (p := ⟨gb129, 3, none⟩) (by first | (rw [add_block]; exact hn130_3) | (show (Addr.add _ _).block ≠ _; rw [add_block]; exact hn130_3) | exact hn130_3) (.int .i64 ((rd_T32 l0_1 x7_1).f3))).trans hx130_0
              replace hx130_1 := (cell_far (p := ⟨gb129, 3, none⟩) (by first | (rw [add_block]; exact hn130_3) | (show (Addr.add _ _).block ≠ _; rw [add_block]; exact hn130_3) | exact hn130_3) (.int .i64 ((rd_T32 l0_1 x7_1).f3))).trans hx130_1
              replace hx130_2 := (cell_far (p := ⟨gb129, 3, none⟩) (by first | (rw [add_block]; exact hn130_3) | (show (Addr.add _ _).block ≠ _; rw [add_block]; exact hn130_3) | exact hn130_3) (.int .i64 ((rd_T32 l0_1 x7_1).f3))).trans hx130_2
              clear hn130_0
              clear hn130_1
              clear hn130_2
              clear hn130_3
              replace p130 := eq_true p130
              replace q130 := eq_true q130
              go_wp2
              go_meet
              case rel => exact ⟨_, (false), (by first | rfl | (simp; done) | (simp [*]; done)), H', ⟨by have := HK1.out; have := HJ7.out; first | omega | exact Nat.le_refl _⟩, ⟨by (with_reducible repeat (first | refine qb3 ?_ _ | refine qb5 ?_ | refine qb4 ?_ _)); refine blk_far ?_ NB124_129.out _; (with_reducible repeat (first | refine qb3 ?_ _ | refine qb5 ?_ | refine qb4 ?_ _)); refine blk_far ?_ NB124_129.out _; (with_reducible repeat (first | refine qb3 ?_ _ | refine qb5 ?_ | refine qb4 ?_ _)); refine blk_far ?_ NB124_129.out _; (with_reducible repeat (first | refine qb3 ?_ _ | refine qb5 ?_ | refine qb4 ?_ _)); refine blk_far ?_ NB124_129.out _; (with_reducible repeat (first | refine qb3 ?_ _ | refine qb5 ?_ | refine qb4 ?_ _)); exact BK124.out⟩, ⟨by (with_reducible repeat (first | refine qb3 ?_ _ | refine qb5 ?_ | refine qb4 ?_ _)); refine blk_put (cs := #[.int .i64 ((rd_T32 l0_1 x7_1).f0), .int .i64 ((rd_T32 l0_1 x7_1).f1), .int .i64 ((rd_T32 l0_1 x7_1).f2), .int .i64 0]) ?_ 3 _ rfl; (with_reducible repeat (first | refine qb3 ?_ _ | refine qb5 ?_ | refine qb4 ?_ _)); refine blk_put (cs := #[.int .i64 ((rd_T32 l0_1 x7_1).f0), .int .i64 ((rd_T32 l0_1 x7_1).f1), .int .i64 0, .int .i64 0]) ?_ 2 _ rfl; (with_reducible repeat (first | refine qb3 ?_ _ | refine qb5 ?_ | refine qb4 ?_ _)); refine blk_put (cs := #[.int .i64 ((rd_T32 l0_1 x7_1).f0), .int .i64 0, .int .i64 0, .int .i64 0]) ?_ 1 _ rfl; (with_reducible repeat (first | refine qb3 ?_ _ | refine qb5 ?_ | refine qb4 ?_ _)); refine blk_put (cs := #[.int .i64 0, .int .i64 0, .int .i64 0, .int .i64 0]) ?_ 0 _ rfl; (with_reducible repeat (first | refine qb3 ?_ _ | refine qb5 ?_ | refine qb4 ?_ _)); exact BK129.out⟩, ⟨by repeat (first | (with_reducible first | exact HB.out | apply qw1 | apply qw2 | apply qw3 | refine qw4 ?_ GE124.out | refine qw4 ?_ GE129.out) | exact HB.out)⟩⟩
            ·rw [if_neg c24] at H
             exact absurd H (by simp)
           ·rw [if_neg c23] at H
            have c23b0 : decide (((rd_T32 l0_1 x7_1).f1) < (l0_0.length : Int)) = false := decide_eq_false c23
            clear c23
            have H' := qam H
            clear H
            have hnb32 := NB129_124.out
            have hnc32 := NB124_129.out
            have hcz33_0 : w18.cell? ⟨gb129, 0, none⟩ = some (.int .i64 0) := (qb1 BK129.out 0).trans rfl
            have hcz33_1 : w18.cell? ⟨gb129, 1, none⟩ = some (.int .i64 0) := (qb1 BK129.out 1).trans rfl
            have hcz33_2 : w18.cell? ⟨gb129, 2, none⟩ = some (.int .i64 0) := (qb1 BK129.out 2).trans rfl
            have hcz33_3 : w18.cell? ⟨gb129, 3, none⟩ = some (.int .i64 0) := (qb1 BK129.out 3).trans rfl
            have hfz33_0 := qb2 BK129.out 0
            have hfz33_1 := qb2 BK129.out 1
            have hfz33_2 := qb2 BK129.out 2
            have hfz33_3 := qb2 BK129.out 3
            have hcz34_0 : w18.cell? ⟨gb124, 0, none⟩ = some (.slice A0_0 l0_0.length c0_0) := (qb1 BK124.out 0).trans rfl
            have hcz34_1 : w18.cell? ⟨gb124, 1, none⟩ = some (.slice (some ad128) l0_1.length c0_1) := (qb1 BK124.out 1).trans rfl
            have hcz34_2 : w18.cell? ⟨gb124, 2, none⟩ = some (.int .i64 a0_2) := (qb1 BK124.out 2).trans rfl
            have hfz34_0 := qb2 BK124.out 0
            have hfz34_1 := qb2 BK124.out 1
            have hfz34_2 := qb2 BK124.out 2
            go_wp2
            go_meet
            case rel => exact ⟨_, (false), (by first | rfl | (simp; done) | (simp [*]; done)), H', ⟨by have := HK1.out; have := HJ7.out; first | omega | exact Nat.le_refl _⟩, ⟨by (with_reducible repeat (first | refine qb3 ?_ _ | refine qb5 ?_ | refine qb4 ?_ _)); refine blk_far ?_ NB124_129.out _; (with_reducible repeat (first | refine qb3 ?_ _ | refine qb5 ?_ | refine qb4 ?_ _)); refine blk_far ?_ NB124_129.out _; (with_reducible repeat (first | refine qb3 ?_ _ | refine qb5 ?_ | refine qb4 ?_ _)); refine blk_far ?_ NB124_129.out _; (with_reducible repeat (first | refine qb3 ?_ _ | refine qb5 ?_ | refine qb4 ?_ _)); refine blk_far ?_ NB124_129.out _; (with_reducible repeat (first | refine qb3 ?_ _ | refine qb5 ?_ | refine qb4 ?_ _)); exact BK124.out⟩, ⟨by (with_reducible repeat (first | refine qb3 ?_ _ | refine qb5 ?_ | refine qb4 ?_ _)); refine blk_put (cs := #[.int .i64 ((rd_T32 l0_1 x7_1).f0), .int .i64 ((rd_T32 l0_1 x7_1).f1), .int .i64 ((rd_T32 l0_1 x7_1).f2), .int .i64 0]) ?_ 3 _ rfl; (with_reducible repeat (first | refine qb3 ?_ _ | refine qb5 ?_ | refine qb4 ?_ _)); refine blk_put (cs := #[.int .i64 ((rd_T32 l0_1 x7_1).f0), .int .i64 ((rd_T32 l0_1 x7_1).f1), .int .i64 0, .int .i64 0]) ?_ 2 _ rfl; (with_reducible repeat (first | refine qb3 ?_ _ | refine qb5 ?_ | refine qb4 ?_ _)); refine blk_put (cs := #[.int .i64 ((rd_T32 l0_1 x7_1).f0), .int .i64 0, .int .i64 0, .int .i64 0]) ?_ 1 _ rfl; (with_reducible repeat (first | refine qb3 ?_ _ | refine qb5 ?_ | refine qb4 ?_ _)); refine blk_put (cs := #[.int .i64 0, .int .i64 0, .int .i64 0, .int .i64 0]) ?_ 0 _ rfl; (with_reducible repeat (first | refine qb3 ?_ _ | refine qb5 ?_ | refine qb4 ?_ _)); exact BK129.out⟩, ⟨by repeat (first | (with_reducible first | exact HB.out | apply qw1 | apply qw2 | apply qw3 | refine qw4 ?_ GE124.out | refine qw4 ?_ GE129.out) | exact HB.out)⟩⟩
          ·rw [if_neg c22] at H
           have c22b0 : decide (0 ≤ ((rd_T32 l0_1 x7_1).f1)) = false := decide_eq_false c22
           clear c22
           have H' := qam H
           clear H
           have hnb35 := NB129_124.out
           have hnc35 := NB124_129.out
           have hcz36_0 : w18.cell? ⟨gb129, 0, none⟩ = some (.int .i64 0) := (qb1 BK129.out 0).trans rfl
           have hcz36_1 : w18.cell? ⟨gb129, 1, none⟩ = some (.int .i64 0) := (qb1 BK129.out 1).trans rfl
           have hcz36_2 : w18.cell? ⟨gb129, 2, none⟩ = some (.int .i64 0) := (qb1 BK129.out 2).trans rfl
           have hcz36_3 : w18.cell? ⟨gb129, 3, none⟩ = some (.int .i64 0) := (qb1 BK129.out 3).trans rfl
           have hfz36_0 := qb2 BK129.out 0
           have hfz36_1 := qb2 BK129.out 1
           have hfz36_2 := qb2 BK129.out 2
           have hfz36_3 := qb2 BK129.out 3
           go_wp2
           go_meet
           case rel => exact ⟨_, (false), (by first | rfl | (simp; done) | (simp [*]; done)), H', ⟨by have := HK1.out; have := HJ7.out; first | omega | exact Nat.le_refl _⟩, ⟨by (with_reducible repeat (first | refine qb3 ?_ _ | refine qb5 ?_ | refine qb4 ?_ _)); refine blk_far ?_ NB124_129.out _; (with_reducible repeat (first | refine qb3 ?_ _ | refine qb5 ?_ | refine qb4 ?_ _)); refine blk_far ?_ NB124_129.out _; (with_reducible repeat (first | refine qb3 ?_ _ | refine qb5 ?_ | refine qb4 ?_ _)); refine blk_far ?_ NB124_129.out _; (with_reducible repeat (first | refine qb3 ?_ _ | refine qb5 ?_ | refine qb4 ?_ _)); refine blk_far ?_ NB124_129.out _; (with_reducible repeat (first | refine qb3 ?_ _ | refine qb5 ?_ | refine qb4 ?_ _)); exact BK124.out⟩, ⟨by (with_reducible repeat (first | refine qb3 ?_ _ | refine qb5 ?_ | refine qb4 ?_ _)); refine blk_put (cs := #[.int .i64 ((rd_T32 l0_1 x7_1).f0), .int .i64 ((rd_T32 l0_1 x7_1).f1), .int .i64 ((rd_T32 l0_1 x7_1).f2), .int .i64 0]) ?_ 3 _ rfl; (with_reducible repeat (first | refine qb3 ?_ _ | refine qb5 ?_ | refine qb4 ?_ _)); refine blk_put (cs := #[.int .i64 ((rd_T32 l0_1 x7_1).f0), .int .i64 ((rd_T32 l0_1 x7_1).f1), .int .i64 0, .int .i64 0]) ?_ 2 _ rfl; (with_reducible repeat (first | refine qb3 ?_ _ | refine qb5 ?_ | refine qb4 ?_ _)); refine blk_put (cs := #[.int .i64 ((rd_T32 l0_1 x7_1).f0), .int .i64 0, .int .i64 0, .int .i64 0]) ?_ 1 _ rfl; (with_reducible repeat (first | refine qb3 ?_ _ | refine qb5 ?_ | refine qb4 ?_ _)); refine blk_put (cs := #[.int .i64 0, .int .i64 0, .int .i64 0, .int .i64 0]) ?_ 0 _ rfl; (with_reducible repeat (first | refine qb3 ?_ _ | refine qb5 ?_ | refine qb4 ?_ _)); exact BK129.out⟩, ⟨by repeat (first | (with_reducible first | exact HB.out | apply qw1 | apply qw2 | apply qw3 | refine qw4 ?_ GE124.out | refine qw4 ?_ GE129.out) | exact HB.out)⟩⟩
         ·rw [if_neg c21] at H
          have c21b0 : (((rd_T32 l0_1 x7_1).f2) == 2) = false := beq_eq_false_iff_ne.mpr c21
          have c21b1 : (((rd_T32 l0_1 x7_1).f2) != 2) = true := bne_iff_ne.mpr c21
          (first | rw [c21b0] | (simp only [i64_w, i32_w]; rw [c21b0]) | skip)
          have H' := qam H
          clear H
          have hnb37 := NB129_124.out
          have hnc37 := NB124_129.out
          have hcz38_0 : w18.cell? ⟨gb129, 0, none⟩ = some (.int .i64 0) := (qb1 BK129.out 0).trans rfl
          have hcz38_1 : w18.cell? ⟨gb129, 1, none⟩ = some (.int .i64 0) := (qb1 BK129.out 1).trans rfl
          have hcz38_2 : w18.cell? ⟨gb129, 2, none⟩ = some (.int .i64 0) := (qb1 BK129.out 2).trans rfl
          have hcz38_3 : w18.cell? ⟨gb129, 3, none⟩ = some (.int .i64 0) := (qb1 BK129.out 3).trans rfl
          have hfz38_0 := qb2 BK129.out 0
          have hfz38_1 := qb2 BK129.out 1
          have hfz38_2 := qb2 BK129.out 2
          have hfz38_3 := qb2 BK129.out 3
          go_wp2
          go_meet
          case rel => exact ⟨_, (false), (by first | rfl | (simp; done) | (simp [*]; done)), H', ⟨by have := HK1.out; have := HJ7.out; first | omega | exact Nat.le_refl _⟩, ⟨by (with_reducible repeat (first | refine qb3 ?_ _ | refine qb5 ?_ | refine qb4 ?_ _)); refine blk_far ?_ NB124_129.out _; (with_reducible repeat (first | refine qb3 ?_ _ | refine qb5 ?_ | refine qb4 ?_ _)); refine blk_far ?_ NB124_129.out _; (with_reducible repeat (first | refine qb3 ?_ _ | refine qb5 ?_ | refine qb4 ?_ _)); refine blk_far ?_ NB124_129.out _; (with_reducible repeat (first | refine qb3 ?_ _ | refine qb5 ?_ | refine qb4 ?_ _)); refine blk_far ?_ NB124_129.out _; (with_reducible repeat (first | refine qb3 ?_ _ | refine qb5 ?_ | refine qb4 ?_ _)); exact BK124.out⟩, ⟨by (with_reducible repeat (first | refine qb3 ?_ _ | refine qb5 ?_ | refine qb4 ?_ _)); refine blk_put (cs := #[.int .i64 ((rd_T32 l0_1 x7_1).f0), .int .i64 ((rd_T32 l0_1 x7_1).f1), .int .i64 ((rd_T32 l0_1 x7_1).f2), .int .i64 0]) ?_ 3 _ rfl; (with_reducible repeat (first | refine qb3 ?_ _ | refine qb5 ?_ | refine qb4 ?_ _)); refine blk_put (cs := #[.int .i64 ((rd_T32 l0_1 x7_1).f0), .int .i64 ((rd_T32 l0_1 x7_1).f1), .int .i64 0, .int .i64 0]) ?_ 2 _ rfl; (with_reducible repeat (first | refine qb3 ?_ _ | refine qb5 ?_ | refine qb4 ?_ _)); refine blk_put (cs := #[.int .i64 ((rd_T32 l0_1 x7_1).f0), .int .i64 0, .int .i64 0, .int .i64 0]) ?_ 1 _ rfl; (with_reducible repeat (first | refine qb3 ?_ _ | refine qb5 ?_ | refine qb4 ?_ _)); refine blk_put (cs := #[.int .i64 0, .int .i64 0, .int .i64 0, .int .i64 0]) ?_ 0 _ rfl; (with_reducible repeat (first | refine qb3 ?_ _ | refine qb5 ?_ | refine qb4 ?_ _)); exact BK129.out⟩, ⟨by repeat (first | (with_reducible first | exact HB.out | apply qw1 | apply qw2 | apply qw3 | refine qw4 ?_ GE124.out | refine qw4 ?_ GE129.out) | exact HB.out)⟩⟩
        case rest =>
         clear HC16
         try clear c1
         try clear p1
         try clear q1
         try clear hx1
         try clear c2
         try clear p2
         try clear c3
         try clear c9
         try clear c9b0
         try clear c10
         try clear c10b0
         try clear p12
         try clear q12
         try clear hx12
         try clear c13
         try clear p13
         try clear q13
         try clear hx13
         try clear c14
         try clear c14b0
         try clear c15
         try clear c15b0
         try clear c17
         try clear c19
         try clear c21
         try clear c21b0
         try clear c21b1
         try clear c22
         try clear c22b0
         try clear c23
         try clear c23b0
         try clear c24
         try clear c24b0
         try clear c25
         try clear c25b0
         try clear c25b1
         try clear c26
         try clear c29
         try clear c32
         try clear c35
         try clear c37
         try clear hcz11_0
         try clear hcz11_1
         try clear hcz11_2
         try clear hcz12_0
         try clear hcz12_1
         try clear hcz12_2
         try clear hcz17_0
         try clear hcz17_1
         try clear hcz17_2
         try clear hcz20_0
         try clear hcz20_1
         try clear hcz20_2
         try clear hcz20_3
         try clear hcz27_0
         try clear hcz27_1
         try clear hcz27_2
         try clear hcz27_3
         try clear hcz28_0
         try clear hcz28_1
         try clear hcz28_2
         try clear hcz30_0
         try clear hcz30_1
         try clear hcz30_2
         try clear hcz30_3
         try clear hcz31_0
         try clear hcz31_1
         try clear hcz31_2
         try clear hcz33_0
         try clear hcz33_1
         try clear hcz33_2
         try clear hcz33_3
         try clear hcz34_0
         try clear hcz34_1
         try clear hcz34_2
         try clear hcz36_0
         try clear hcz36_1
         try clear hcz36_2
         try clear hcz36_3
         try clear hcz38_0
         try clear hcz38_1
         try clear hcz38_2
         try clear hcz38_3
         try clear hcz6_0
         try clear hcz6_1
         try clear hcz6_2
         try clear hfz11_0
         try clear hfz11_1
         try clear hfz11_2
         try clear hfz12_0
         try clear hfz12_1
         try clear hfz12_2
         try clear hfz17_0
         try clear hfz17_1
         try clear hfz17_2
         try clear hfz20_0
         try clear hfz20_1
         try clear hfz20_2
         try clear hfz20_3
         try clear hfz27_0
         try clear hfz27_1
         try clear hfz27_2
         try clear hfz27_3
         try clear hfz28_0
         try clear hfz28_1
         try clear hfz28_2
         try clear hfz30_0
         try clear hfz30_1
         try clear hfz30_2
         try clear hfz30_3
         try clear hfz31_0
         try clear hfz31_1
         try clear hfz31_2
         try clear hfz33_0
         try clear hfz33_1
         try clear hfz33_2
         try clear hfz33_3
         try clear hfz34_0
         try clear hfz34_1
         try clear hfz34_2
         try clear hfz36_0
         try clear hfz36_1
         try clear hfz36_2
         try clear hfz36_3
         try clear hfz38_0
         try clear hfz38_1
         try clear hfz38_2
         try clear hfz38_3
         try clear hfz6_0
         try clear hfz6_1
         try clear hfz6_2
         try clear hx127_0
         try clear hx127_1
         try clear hx127_2
         try clear hx127_3
         try clear hx128_0
         try clear hx128_1
         try clear hx128_2
         try clear hx128_3
         try clear hx130_0
         try clear hx130_1
         try clear hx130_2
         try clear hx131_0
         try clear hx131_1
         try clear hx131_2
         try clear p1
         try clear p12
         try clear p127
         try clear p128
         try clear p130
         try clear p131
         try clear p2
         try clear q1
         try clear q12
         try clear q127
         try clear q128
         try clear q130
         try clear q131
         obtain ⟨kq, x76_15, rfl, HA, HJ15, BK124, BK129, HB⟩ := hcut
         cases kq with
         | zero => exact absurd HA.out (by simp [super_enters.j2])
         | succ kj15 =>
          have H := HA.out
          clear HA
          simp only [super_enters.j2] at H
          by_cases c39 : x76_15 = true
          ·subst c39
           have H1 : (some true) = some r := by rw [if_pos rfl] at H; exact H
           clear H
           have H := H1
           clear H1
           obtain rfl := Option.some.inj H
           go_wp2
           go_ret
           exact ⟨by first | rfl | (simp [errW_none, errW_some] <;> rfl) | (simp [*, errW_none, errW_some] <;> rfl), by repeat (first | (with_reducible first | exact HB.out | apply qw1 | apply qw2 | apply qw3 | refine qw4 ?_ GE124.out | refine qw4 ?_ GE129.out) | exact HB.out)⟩
          ·replace c39 := Bool.eq_false_iff.mpr c39
           subst c39
           have H1 : (super_enters.l0 kj15 a1 a2 (wrap64 (x7_1 + 1)) l0_0 l0_1 a0_2) = some r := by rw [if_neg (show ¬ (false = true) by decide)] at H; exact H
           clear H
           have H := H1
           clear H1
           have H' := qam H
           clear H
           go_wp2
           go_roundg kj15
           case measure => have := HK1.out; have := HJ7.out; have := HJ15.out; omega
           case rel => exact ⟨(wrap64 (x7_1 + 1)), (by first | rfl | (simp; done) | (simp [*]; done)), H', ⟨by have := HK1.out; have := HJ7.out; have := HJ15.out; omega⟩, ⟨by (with_reducible repeat (first | refine qb3 ?_ _ | refine qb5 ?_ | refine qb4 ?_ _)); exact BK124.out⟩, ⟨by repeat (first | (with_reducible first | exact HB.out | apply qw1 | apply qw2 | apply qw3 | refine qw4 ?_ GE124.out | refine qw4 ?_ GE129.out) | exact HB.out)⟩⟩
       ·rw [if_neg c15] at H
        exact absurd H (by simp)
      ·rw [if_neg c14] at H
       exact absurd H (by simp)
     ·replace c13 := Bool.eq_false_iff.mpr c13
      subst c13
      have H1 : (some false) = some r := by rw [if_neg (show ¬ (false = true) by decide)] at H; exact H
      clear H
      have H := H1
      clear H1
      obtain rfl := Option.some.inj H
      go_wp2
      go_ret
      exact ⟨by first | rfl | (simp [errW_none, errW_some] <;> rfl) | (simp [*, errW_none, errW_some] <;> rfl), by repeat (first | (with_reducible first | exact HB.out | apply qw1 | apply qw2 | apply qw3 | refine qw4 ?_ GE124.out) | exact HB.out)⟩

end Go.Proofs.Ytflpelbhalndcaa.QV
