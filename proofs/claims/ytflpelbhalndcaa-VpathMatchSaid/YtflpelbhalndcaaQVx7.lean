-- By a program of this session, out of the translation's own print.
import Derived.Test.YtflpelbhalndcaaQVg
import Derived.Test.YtflpelbhalndcaaQVx0
import Derived.Test.YtflpelbhalndcaaQVx4
import Derived.Test.YtflpelbhalndcaaQVx6
namespace Go.Proofs.Ytflpelbhalndcaa.QV
open Go.RowKit Go.Proofs.YtflpelbhalndcaaW.PrintWords Go.Proofs.YtflpelbhalndcaaW.PrintLast Go.Proofs.YtflpelbhalndcaaW.PrintMore
attribute [local go_sem] max2_int min2_int max_two min_two max_three min_three max_four min_four   -- for this text's walks alone
set_option linter.unusedVariables false
set_option linter.unusedSimpArgs false

/-! ### super_Check: function 59 -/
mutual
def super_Check.j0 : Nat → Bool → List (S35) → List (S32) → Int → Option (Int)
 | 0, _, _, _, _ => none
 | k + 1, x16, x162000, x162001, x162002 => if x16 = true then (some 3) else ((super_checkNodes.f x162000).bind fun t162 => (if t162 = 0 then (if x162002 < 0 then (super_Check.j1 k true x162000 x162001 x162002) else (if x162002 ≥ (x162000.length : Int) then (super_Check.j1 k true x162000 x162001 x162002) else (if 0 ≤ x162002 then (if x162002 < (x162000.length : Int) then (super_Check.j1 k (((rd_T35 x162000 x162002).f1) != 1) x162000 x162001 x162002) else (none)) else (none)))) else (some t162)))
def super_Check.j1 : Nat → Bool → List (S35) → List (S32) → Int → Option (Int)
 | 0, _, _, _, _ => none
 | k + 1, x43, x162000, x162001, x162002 => if x43 = true then (some 14) else ((api_SEdge_109.f x162001).bind fun t164 => (if t164 = true then (super_Check.l0 k (x162001.length : Int) 0 x162000 x162001 x162002) else ((super_unsorted.f k x162000 x162001 x162002).bind fun t165 => (some t165))))
def super_Check.l0 : Nat → Int → Int → List (S35) → List (S32) → Int → Option (Int)
 | 0, _, _, _, _, _ => none
 | k + 1, x53, x54, x162000, x162001, x162002 => if x54 < x53 then ((super_checkEdge.f k x162000 x162001 x162002 x54).bind fun t166 => (if t166 = 0 then (super_Check.l0 k x53 (wrap64 (x54 + 1)) x162000 x162001 x162002) else (some t166))) else (some 0)
end
def super_Check.f (k : Nat) (l0_0 : List (S35)) (l0_1 : List (S32)) (a0_2 : Int) : Option (Int) := if (l0_0.length : Int) > 8192 then (super_Check.j0 k true l0_0 l0_1 a0_2) else (super_Check.j0 k (decide ((l0_1.length : Int) > 32768)) l0_0 l0_1 a0_2)
theorem super_Check.mono_l : ∀ k, (∀ y0 y1 y2 y3, LeO (super_Check.j0 k y0 y1 y2 y3) (super_Check.j0 (k + 1) y0 y1 y2 y3)) ∧ (∀ y0 y1 y2 y3, LeO (super_Check.j1 k y0 y1 y2 y3) (super_Check.j1 (k + 1) y0 y1 y2 y3)) ∧ (∀ y0 y1 y2 y3 y4, LeO (super_Check.l0 k y0 y1 y2 y3 y4) (super_Check.l0 (k + 1) y0 y1 y2 y3 y4))
 | 0 => ⟨fun _ _ _ _ r h => by simp [super_Check.j0] at h, fun _ _ _ _ r h => by simp [super_Check.j1] at h, fun _ _ _ _ _ r h => by simp [super_Check.l0] at h⟩
 | k + 1 => by
  obtain ⟨ih0, ih1, ih2⟩ := super_Check.mono_l k
  refine ⟨?_, ?_, ?_⟩
  ·intro y0 y1 y2 y3
   unfold super_Check.j0
   repeat' first
   | (with_reducible exact ih0 _ _ _ _)
   | (with_reducible exact ih1 _ _ _ _)
   | (with_reducible exact ih2 _ _ _ _ _)
   | (with_reducible exact super_checkEdge.mono _ _ _ _ _)
   | (with_reducible exact super_unsorted.mono _ _ _ _)
   | (with_reducible exact LeO.refl _)
   | (with_reducible exact LeO.none _)
   | (with_reducible refine LeO.ite ?_ ?_)
   | (with_reducible refine LeO.bind ?_ (fun _ => ?_))
   | exact ih0 _ _ _ _
   | exact ih1 _ _ _ _
   | exact ih2 _ _ _ _ _
   | exact super_checkEdge.mono _ _ _ _ _
   | exact super_unsorted.mono _ _ _ _
   | exact LeO.none _
   | refine LeO.ite ?_ ?_
   | refine LeO.bind ?_ (fun _ => ?_)
  ·intro y0 y1 y2 y3
   unfold super_Check.j1
   repeat' first
   | (with_reducible exact ih0 _ _ _ _)
   | (with_reducible exact ih1 _ _ _ _)
   | (with_reducible exact ih2 _ _ _ _ _)
   | (with_reducible exact super_checkEdge.mono _ _ _ _ _)
   | (with_reducible exact super_unsorted.mono _ _ _ _)
   | (with_reducible exact LeO.refl _)
   | (with_reducible exact LeO.none _)
   | (with_reducible refine LeO.ite ?_ ?_)
   | (with_reducible refine LeO.bind ?_ (fun _ => ?_))
   | exact ih0 _ _ _ _
   | exact ih1 _ _ _ _
   | exact ih2 _ _ _ _ _
   | exact super_checkEdge.mono _ _ _ _ _
   | exact super_unsorted.mono _ _ _ _
   | exact LeO.none _
   | refine LeO.ite ?_ ?_
   | refine LeO.bind ?_ (fun _ => ?_)
  ·intro y0 y1 y2 y3 y4
   unfold super_Check.l0
   repeat' first
   | (with_reducible exact ih0 _ _ _ _)
   | (with_reducible exact ih1 _ _ _ _)
   | (with_reducible exact ih2 _ _ _ _ _)
   | (with_reducible exact super_checkEdge.mono _ _ _ _ _)
   | (with_reducible exact super_unsorted.mono _ _ _ _)
   | (with_reducible exact LeO.refl _)
   | (with_reducible exact LeO.none _)
   | (with_reducible refine LeO.ite ?_ ?_)
   | (with_reducible refine LeO.bind ?_ (fun _ => ?_))
   | exact ih0 _ _ _ _
   | exact ih1 _ _ _ _
   | exact ih2 _ _ _ _ _
   | exact super_checkEdge.mono _ _ _ _ _
   | exact super_unsorted.mono _ _ _ _
   | exact LeO.none _
   | refine LeO.ite ?_ ?_
   | refine LeO.bind ?_ (fun _ => ?_)
theorem super_Check.mono : ∀ a0 a1 a2 k, LeO (super_Check.f k a0 a1 a2) (super_Check.f (k + 1) a0 a1 a2) := by
 intro a0 a1 a2 k
 obtain ⟨ih0, ih1, ih2⟩ := super_Check.mono_l k
 unfold super_Check.f
 repeat' first
   | (with_reducible exact ih0 _ _ _ _)
   | (with_reducible exact ih1 _ _ _ _)
   | (with_reducible exact ih2 _ _ _ _ _)
   | (with_reducible exact super_checkEdge.mono _ _ _ _ _)
   | (with_reducible exact super_unsorted.mono _ _ _ _)
   | (with_reducible exact LeO.refl _)
   | (with_reducible exact LeO.none _)
   | (with_reducible refine LeO.ite ?_ ?_)
   | (with_reducible refine LeO.bind ?_ (fun _ => ?_))
   | exact ih0 _ _ _ _
   | exact ih1 _ _ _ _
   | exact ih2 _ _ _ _ _
   | exact super_checkEdge.mono _ _ _ _ _
   | exact super_unsorted.mono _ _ _ _
   | exact LeO.none _
   | refine LeO.ite ?_ ?_
   | refine LeO.bind ?_ (fun _ => ?_)
set_option maxHeartbeats 8000000 in
set_option maxRecDepth 100000 in
theorem super_Check.calls (k : Nat) (A0_0 : Option Addr) (c0_0 : Nat) (l0_0 : List (S35)) (A0_1 : Option Addr) (c0_1 : Nat) (l0_1 : List (S32)) (a0_2 : Int) (r : Int) (w : World) (hr0_0 : Kd.C k35 w A0_0 l0_0.length l0_0) (hc0_0 : l0_0.length ≤ c0_0) (hr0_1 : Kd.C k32 w A0_1 l0_1.length l0_1) (hc0_1 : l0_1.length ≤ c0_1) (h : super_Check.f k l0_0 l0_1 a0_2 = some r) :
  Calls Try.prog 59 #[.agg #[.slice A0_0 l0_0.length c0_0, .slice A0_1 l0_1.length c0_1, .int .i64 a0_2]] w fun e w' => e = .returned (.int .i64 r) ∧ Below w.heap.size w w' := by
 have hu25 := Try.underlying25
 have HR0_0 := qam hr0_0
 have HC0_0 := qam hc0_0
 clear hr0_0 hc0_0
 have HR0_1 := qam hr0_1
 have HC0_1 := qam hc0_1
 clear hr0_1 hc0_1
 have HB := qam (Below.refl w.heap.size w)
 have H : (if (l0_0.length : Int) > 8192 then (super_Check.j0 k true l0_0 l0_1 a0_2) else (super_Check.j0 k (decide ((l0_1.length : Int) > 32768)) l0_0 l0_1 a0_2)) = some r := h
 clear h
 have HC2 := qam H
 clear H
 go_enter Try.func59, Try.ntmps59
 go_upto_region 1 with (first | ((with_reducible refine gate_dst (N := 1) rfl ?_); (try (refine gate_guard (by rfl) ?_; dsimp only)); refine box_event ?hg (N := 1) ?hd (cs := #[.slice A0_0 l0_0.length c0_0, .slice A0_1 l0_1.length c0_1, .int .i64 a0_2]) (t := 25) ?hr ?_; (case hd => rfl); (case hg => rfl); (case hr => first | (go_simp; done) | (go_simp; rfl)); intro gb161 hg w3 hbox hb; have n0_ := qam (qw6 (by repeat (first | (with_reducible first | exact HB.out | apply qw1 | apply qw2 | apply qw3) | exact HB.out)) hb); have n1_ := qam (hbox); have n2_ := qam ((by rw [hg]; exact (qw5 (by repeat (first | (with_reducible first | exact HB.out | apply qw1 | apply qw2 | apply qw3) | exact HB.out))) : w.heap.size ≤ gb161)); have n3_ := qam ((by rw [hg]; exact (qw5 (by repeat (first | (with_reducible first | exact HB.out | apply qw1 | apply qw2 | apply qw3) | exact HB.out))) : w.heap.size ≤ gb161)); clear HB; have HB := n0_; have BK161 := n1_; have GW161 := n2_; have GE161 := n3_; clear n0_ n1_ n2_ n3_; clear hb hbox hg))
 (try simp only [Act.put, qs1, qs2, qs3])
 go_cut [16] (fun v16 wc => ∃ (kq : Nat) (x16_1 : Bool), v16 = .bool x16_1 ∧ Aside0 (super_Check.j0 kq x16_1 l0_0 l0_1 a0_2 = some r) ∧ Aside0 (kq ≤ k) ∧ Aside0 (wc.heap[gb161]? = some (.cells #[(.slice A0_0 l0_0.length c0_0), (.slice A0_1 l0_1.length c0_1), .int .i64 a0_2] 25 (0, 0))) ∧ Aside0 (Below w.heap.size w wc))
 case first =>
  have H := HC2.out
  clear HC2
  by_cases c4 : (l0_0.length : Int) > 8192
  ·rw [if_pos c4] at H
   have c4b0 : decide (8192 < (l0_0.length : Int)) = true := decide_eq_true c4
   have c4b1 : decide (8192 < l0_0.length) = true := decide_eq_true (by omega)
   clear c4
   (first | rw [c4b0] | (simp only [i64_w, i32_w]; rw [c4b0]) | skip)
   have H' := qam H
   clear H
   have hcz5_0 : w3.cell? ⟨gb161, 0, none⟩ = some (.slice A0_0 l0_0.length c0_0) := (qb1 BK161.out 0).trans rfl
   have hcz5_1 : w3.cell? ⟨gb161, 1, none⟩ = some (.slice A0_1 l0_1.length c0_1) := (qb1 BK161.out 1).trans rfl
   have hcz5_2 : w3.cell? ⟨gb161, 2, none⟩ = some (.int .i64 a0_2) := (qb1 BK161.out 2).trans rfl
   have hfz5_0 := qb2 BK161.out 0
   have hfz5_1 := qb2 BK161.out 1
   have hfz5_2 := qb2 BK161.out 2
   go_wp2
   go_meet
   case rel => exact ⟨_, (true), (by first | rfl | (simp; done) | (simp [*]; done)), H', ⟨by first | omega | exact Nat.le_refl _⟩, ⟨by (with_reducible repeat (first | refine qb3 ?_ _ | refine qb5 ?_ | refine qb4 ?_ _)); exact BK161.out⟩, ⟨by repeat (first | (with_reducible first | exact HB.out | apply qw1 | apply qw2 | apply qw3 | refine qw4 ?_ GE161.out) | exact HB.out)⟩⟩
  ·rw [if_neg c4] at H
   have c4b0 : decide (8192 < (l0_0.length : Int)) = false := decide_eq_false c4
   have c4b1 : decide (8192 < l0_0.length) = false := decide_eq_false (by omega)
   clear c4
   (first | rw [c4b0] | (simp only [i64_w, i32_w]; rw [c4b0]) | skip)
   have H' := qam H
   clear H
   have hcz6_0 : w3.cell? ⟨gb161, 0, none⟩ = some (.slice A0_0 l0_0.length c0_0) := (qb1 BK161.out 0).trans rfl
   have hcz6_1 : w3.cell? ⟨gb161, 1, none⟩ = some (.slice A0_1 l0_1.length c0_1) := (qb1 BK161.out 1).trans rfl
   have hcz6_2 : w3.cell? ⟨gb161, 2, none⟩ = some (.int .i64 a0_2) := (qb1 BK161.out 2).trans rfl
   have hfz6_0 := qb2 BK161.out 0
   have hfz6_1 := qb2 BK161.out 1
   have hfz6_2 := qb2 BK161.out 2
   go_wp2
   go_meet
   case rel => exact ⟨_, (decide ((l0_1.length : Int) > 32768)), (by first | rfl | (simp; done) | (simp [*]; done)), H', ⟨by first | omega | exact Nat.le_refl _⟩, ⟨by (with_reducible repeat (first | refine qb3 ?_ _ | refine qb5 ?_ | refine qb4 ?_ _)); exact BK161.out⟩, ⟨by repeat (first | (with_reducible first | exact HB.out | apply qw1 | apply qw2 | apply qw3 | refine qw4 ?_ GE161.out) | exact HB.out)⟩⟩
 case rest =>
  clear HC2
  try clear p2
  try clear c4
  try clear c4b0
  try clear c4b1
  try clear c5
  try clear hcz5_0
  try clear hcz5_1
  try clear hcz5_2
  try clear hcz6_0
  try clear hcz6_1
  try clear hcz6_2
  try clear hfz5_0
  try clear hfz5_1
  try clear hfz5_2
  try clear hfz6_0
  try clear hfz6_1
  try clear hfz6_2
  obtain ⟨kq, x16_1, rfl, HA, HJ1, BK161, HB⟩ := hcut
  cases kq with
  | zero => exact absurd HA.out (by simp [super_Check.j0])
  | succ kj1 =>
   have H := HA.out
   clear HA
   simp only [super_Check.j0] at H
   by_cases c7 : x16_1 = true
   ·subst c7
    have H1 : (some 3) = some r := by rw [if_pos rfl] at H; exact H
    clear H
    have H := H1
    clear H1
    obtain rfl := Option.some.inj H
    go_wp2
    go_ret
    exact ⟨by first | rfl | (simp [errW_none, errW_some] <;> rfl) | (simp [*, errW_none, errW_some] <;> rfl), by repeat (first | (with_reducible first | exact HB.out | apply qw1 | apply qw2 | apply qw3 | refine qw4 ?_ GE161.out) | exact HB.out)⟩
   ·replace c7 := Bool.eq_false_iff.mpr c7
    subst c7
    have H1 : ((super_checkNodes.f l0_0).bind fun t162 => (if t162 = 0 then (if a0_2 < 0 then (super_Check.j1 kj1 true l0_0 l0_1 a0_2) else (if a0_2 ≥ (l0_0.length : Int) then (super_Check.j1 kj1 true l0_0 l0_1 a0_2) else (if 0 ≤ a0_2 then (if a0_2 < (l0_0.length : Int) then (super_Check.j1 kj1 (((rd_T35 l0_0 a0_2).f1) != 1) l0_0 l0_1 a0_2) else (none)) else (none)))) else (some t162))) = some r := by rw [if_neg (show ¬ (false = true) by decide)] at H; exact H
    clear H
    have H := H1
    clear H1
    replace H := Option.bind_eq_some_iff.mp H
    obtain ⟨t162, A80, H⟩ := H
    replace H : (if t162 = 0 then (if a0_2 < 0 then (super_Check.j1 kj1 true l0_0 l0_1 a0_2) else (if a0_2 ≥ (l0_0.length : Int) then (super_Check.j1 kj1 true l0_0 l0_1 a0_2) else (if 0 ≤ a0_2 then (if a0_2 < (l0_0.length : Int) then (super_Check.j1 kj1 (((rd_T35 l0_0 a0_2).f1) != 1) l0_0 l0_1 a0_2) else (none)) else (none)))) else (some t162)) = some r := H
    have A8 := qam A80
    clear A80
    by_cases c9 : t162 = 0
    ·rw [if_pos c9] at H
     have c9b0 : (t162 == 0) = true := beq_iff_eq.mpr c9
     have c9b1 : (t162 != 0) = false := bne_eq_false_iff_eq.mpr c9
     clear c9
     have HC10 := qam H
     clear H
     have hcz11_0 : wc.cell? ⟨gb161, 0, none⟩ = some (.slice A0_0 l0_0.length c0_0) := (qb1 BK161.out 0).trans rfl
     have hcz11_1 : wc.cell? ⟨gb161, 1, none⟩ = some (.slice A0_1 l0_1.length c0_1) := (qb1 BK161.out 1).trans rfl
     have hcz11_2 : wc.cell? ⟨gb161, 2, none⟩ = some (.int .i64 a0_2) := (qb1 BK161.out 2).trans rfl
     have hfz11_0 := qb2 BK161.out 0
     have hfz11_1 := qb2 BK161.out 1
     have hfz11_2 := qb2 BK161.out 2
     go_upto_region 6 with (first | ((with_reducible refine gate_callee (f := 108) rfl ?_); refine goesL_ (some 19) rfl rfl Try.func108 (by kernel_rfl) rfl #[.slice A0_0 l0_0.length c0_0] rfl (by (try simp only [List.map_toArray, List.map_cons, List.map_nil]); first | done | rfl | (simp only [List.length_drop, List.length_take]; rfl)) ?_; (with_reducible refine (super_checkNodes.calls _ _ l0_0 t162 _ ?side1 ?side2 A8.out).mono ?_); (case side1 => repeat (first | exact (qk4 HR0_0.out HB.out) | (with_reducible refine Kd.C_alloc ?_ _) | (with_reducible refine Kd.C_drewN ?_ _) | (with_reducible refine Kd.C_drew ?_))); (case side2 => exact HC0_0.out); rintro e w12 ⟨rfl, hb⟩; refine ⟨_, rfl, ?_⟩; have n0_ := qam (blk_below (g := gb161) (o := .cells #[.slice A0_0 l0_0.length c0_0, .slice A0_1 l0_1.length c0_1, .int .i64 a0_2] 25 (0, 0)) (by (with_reducible repeat (first | refine qb3 ?_ _ | refine qb5 ?_ | refine qb4 ?_ _)); exact BK161.out) hb); have n1_ := qam (qw6 (by repeat (first | (with_reducible first | exact HB.out | apply qw1 | apply qw2 | apply qw3 | refine qw4 ?_ GE161.out) | exact HB.out)) hb); clear BK161; clear HB; have BK161 := n0_; have HB := n1_; clear n0_ n1_; (try clear hb); (try clear hb2); (try clear hk); (try clear hi)))
     (try simp only [Act.put, qs1, qs2, qs3])
     go_cut [43] (fun v43 wc => ∃ (kq : Nat) (x43_9 : Bool), v43 = .bool x43_9 ∧ Aside0 (super_Check.j1 kq x43_9 l0_0 l0_1 a0_2 = some r) ∧ Aside0 (kq ≤ kj1) ∧ Aside0 (wc.heap[gb161]? = some (.cells #[(.slice A0_0 l0_0.length c0_0), (.slice A0_1 l0_1.length c0_1), .int .i64 a0_2] 25 (0, 0))) ∧ Aside0 (Below w.heap.size w wc))
     case first =>
      have H := HC10.out
      clear HC10
      by_cases c13 : a0_2 < 0
      ·rw [if_pos c13] at H
       have c13b0 : decide (a0_2 < 0) = true := decide_eq_true c13
       clear c13
       (first | rw [c13b0] | (simp only [i64_w, i32_w]; rw [c13b0]) | skip)
       have H' := qam H
       clear H
       have hcz14_0 : w12.cell? ⟨gb161, 0, none⟩ = some (.slice A0_0 l0_0.length c0_0) := (qb1 BK161.out 0).trans rfl
       have hcz14_1 : w12.cell? ⟨gb161, 1, none⟩ = some (.slice A0_1 l0_1.length c0_1) := (qb1 BK161.out 1).trans rfl
       have hcz14_2 : w12.cell? ⟨gb161, 2, none⟩ = some (.int .i64 a0_2) := (qb1 BK161.out 2).trans rfl
       have hfz14_0 := qb2 BK161.out 0
       have hfz14_1 := qb2 BK161.out 1
       have hfz14_2 := qb2 BK161.out 2
       go_wp2
       go_meet
       case rel => exact ⟨_, (true), (by first | rfl | (simp; done) | (simp [*]; done)), H', ⟨by have := HJ1.out; first | omega | exact Nat.le_refl _⟩, ⟨by (with_reducible repeat (first | refine qb3 ?_ _ | refine qb5 ?_ | refine qb4 ?_ _)); exact BK161.out⟩, ⟨by repeat (first | (with_reducible first | exact HB.out | apply qw1 | apply qw2 | apply qw3 | refine qw4 ?_ GE161.out) | exact HB.out)⟩⟩
      ·rw [if_neg c13] at H
       have c13b0 : decide (a0_2 < 0) = false := decide_eq_false c13
       clear c13
       (first | rw [c13b0] | (simp only [i64_w, i32_w]; rw [c13b0]) | skip)
       by_cases c15 : a0_2 ≥ (l0_0.length : Int)
       ·rw [if_pos c15] at H
        have c15b0 : decide ((l0_0.length : Int) ≤ a0_2) = true := decide_eq_true c15
        clear c15
        have H' := qam H
        clear H
        have hcz16_0 : w12.cell? ⟨gb161, 0, none⟩ = some (.slice A0_0 l0_0.length c0_0) := (qb1 BK161.out 0).trans rfl
        have hcz16_1 : w12.cell? ⟨gb161, 1, none⟩ = some (.slice A0_1 l0_1.length c0_1) := (qb1 BK161.out 1).trans rfl
        have hcz16_2 : w12.cell? ⟨gb161, 2, none⟩ = some (.int .i64 a0_2) := (qb1 BK161.out 2).trans rfl
        have hfz16_0 := qb2 BK161.out 0
        have hfz16_1 := qb2 BK161.out 1
        have hfz16_2 := qb2 BK161.out 2
        go_wp2
        go_meet
        case rel => exact ⟨_, (true), (by first | rfl | (simp; done) | (simp [*]; done)), H', ⟨by have := HJ1.out; first | omega | exact Nat.le_refl _⟩, ⟨by (with_reducible repeat (first | refine qb3 ?_ _ | refine qb5 ?_ | refine qb4 ?_ _)); exact BK161.out⟩, ⟨by repeat (first | (with_reducible first | exact HB.out | apply qw1 | apply qw2 | apply qw3 | refine qw4 ?_ GE161.out) | exact HB.out)⟩⟩
       ·rw [if_neg c15] at H
        have c15b0 : decide ((l0_0.length : Int) ≤ a0_2) = false := decide_eq_false c15
        clear c15
        by_cases c17 : 0 ≤ a0_2
        ·rw [if_pos c17] at H
         have c17b0 : decide (0 ≤ a0_2) = true := decide_eq_true c17
         clear c17
         by_cases c18 : a0_2 < (l0_0.length : Int)
         ·rw [if_pos c18] at H
          have c18b0 : decide (a0_2 < (l0_0.length : Int)) = true := decide_eq_true c18
          clear c18
          have H' := qam H
          clear H
          have hcz19_0 : w12.cell? ⟨gb161, 0, none⟩ = some (.slice A0_0 l0_0.length c0_0) := (qb1 BK161.out 0).trans rfl
          have hcz19_1 : w12.cell? ⟨gb161, 1, none⟩ = some (.slice A0_1 l0_1.length c0_1) := (qb1 BK161.out 1).trans rfl
          have hcz19_2 : w12.cell? ⟨gb161, 2, none⟩ = some (.int .i64 a0_2) := (qb1 BK161.out 2).trans rfl
          have hfz19_0 := qb2 BK161.out 0
          have hfz19_1 := qb2 BK161.out 1
          have hfz19_2 := qb2 BK161.out 2
          have p163 : 0 ≤ (a0_2 : Int) := of_decide_eq_true (by first | (with_reducible assumption) | assumption)
          have q163 : a0_2 < (l0_0.length : Int) := of_decide_eq_true (by first | (with_reducible assumption) | assumption)
          obtain ⟨ad163, e163, hx163_0, hx163_1, hx163_2⟩ := at_T35 HR0_0.out a0_2 p163 q163
          cases e163
          replace hx163_0 := (HB.out.cell (qbl w _ hx163_0)).trans hx163_0
          replace hx163_1 := (HB.out.cell (qbl w _ hx163_1)).trans hx163_1
          replace hx163_2 := (HB.out.cell (qbl w _ hx163_2)).trans hx163_2
          replace p163 := eq_true p163
          replace q163 := eq_true q163
          go_wp2
          go_meet
          case rel => exact ⟨_, ((((rd_T35 l0_0 a0_2).f1) != 1)), (by first | rfl | (simp; done) | (simp [*]; done)), H', ⟨by have := HJ1.out; first | omega | exact Nat.le_refl _⟩, ⟨by (with_reducible repeat (first | refine qb3 ?_ _ | refine qb5 ?_ | refine qb4 ?_ _)); exact BK161.out⟩, ⟨by repeat (first | (with_reducible first | exact HB.out | apply qw1 | apply qw2 | apply qw3 | refine qw4 ?_ GE161.out) | exact HB.out)⟩⟩
         ·rw [if_neg c18] at H
          exact absurd H (by simp)
        ·rw [if_neg c17] at H
         exact absurd H (by simp)
     case rest =>
      clear HC10
      try clear c1
      try clear p1
      try clear q1
      try clear hx1
      try clear p2
      try clear c4
      try clear c4b0
      try clear c4b1
      try clear c5
      try clear c7
      try clear c9
      try clear c9b0
      try clear c9b1
      try clear c10
      try clear c13
      try clear c13b0
      try clear c15
      try clear c15b0
      try clear p16
      try clear q16
      try clear hx16
      try clear c17
      try clear c17b0
      try clear c18
      try clear c18b0
      try clear hcz11_0
      try clear hcz11_1
      try clear hcz11_2
      try clear hcz14_0
      try clear hcz14_1
      try clear hcz14_2
      try clear hcz16_0
      try clear hcz16_1
      try clear hcz16_2
      try clear hcz19_0
      try clear hcz19_1
      try clear hcz19_2
      try clear hcz5_0
      try clear hcz5_1
      try clear hcz5_2
      try clear hcz6_0
      try clear hcz6_1
      try clear hcz6_2
      try clear hfz11_0
      try clear hfz11_1
      try clear hfz11_2
      try clear hfz14_0
      try clear hfz14_1
      try clear hfz14_2
      try clear hfz16_0
      try clear hfz16_1
      try clear hfz16_2
      try clear hfz19_0
      try clear hfz19_1
      try clear hfz19_2
      try clear hfz5_0
      try clear hfz5_1
      try clear hfz5_2
      try clear hfz6_0
      try clear hfz6_1
      try clear hfz6_2
      try clear hx163_0
      try clear hx163_1
      try clear hx163_2
      try clear p163
      try clear p2
      try clear q163
      obtain ⟨kq, x43_9, rfl, HA, HJ9, BK161, HB⟩ := hcut
      cases kq with
      | zero => exact absurd HA.out (by simp [super_Check.j1])
      | succ kj9 =>
       have H := HA.out
       clear HA
       simp only [super_Check.j1] at H
       by_cases c20 : x43_9 = true
       ·subst c20
        have H1 : (some 14) = some r := by rw [if_pos rfl] at H; exact H
        clear H
        have H := H1
        clear H1
        obtain rfl := Option.some.inj H
        go_wp2
        go_ret
        exact ⟨by first | rfl | (simp [errW_none, errW_some] <;> rfl) | (simp [*, errW_none, errW_some] <;> rfl), by repeat (first | (with_reducible first | exact HB.out | apply qw1 | apply qw2 | apply qw3 | refine qw4 ?_ GE161.out) | exact HB.out)⟩
       ·replace c20 := Bool.eq_false_iff.mpr c20
        subst c20
        have H1 : ((api_SEdge_109.f l0_1).bind fun t164 => (if t164 = true then (super_Check.l0 kj9 (l0_1.length : Int) 0 l0_0 l0_1 a0_2) else ((super_unsorted.f kj9 l0_0 l0_1 a0_2).bind fun t165 => (some t165)))) = some r := by rw [if_neg (show ¬ (false = true) by decide)] at H; exact H
        clear H
        have H := H1
        clear H1
        replace H := Option.bind_eq_some_iff.mp H
        obtain ⟨t164, A210, H⟩ := H
        replace H : (if t164 = true then (super_Check.l0 kj9 (l0_1.length : Int) 0 l0_0 l0_1 a0_2) else ((super_unsorted.f kj9 l0_0 l0_1 a0_2).bind fun t165 => (some t165))) = some r := H
        have A21 := qam A210
        clear A210
        by_cases c22 : t164 = true
        ·subst c22
         have H1 : (super_Check.l0 kj9 (l0_1.length : Int) 0 l0_0 l0_1 a0_2) = some r := by rw [if_pos rfl] at H; exact H
         clear H
         have H := H1
         clear H1
         have H' := qam H
         clear H
         have hcz23_0 : wc.cell? ⟨gb161, 0, none⟩ = some (.slice A0_0 l0_0.length c0_0) := (qb1 BK161.out 0).trans rfl
         have hcz23_1 : wc.cell? ⟨gb161, 1, none⟩ = some (.slice A0_1 l0_1.length c0_1) := (qb1 BK161.out 1).trans rfl
         have hcz23_2 : wc.cell? ⟨gb161, 2, none⟩ = some (.int .i64 a0_2) := (qb1 BK161.out 2).trans rfl
         have hfz23_0 := qb2 BK161.out 0
         have hfz23_1 := qb2 BK161.out 1
         have hfz23_2 := qb2 BK161.out 2
         go_wp2_with (first | ((with_reducible refine gate_callee (f := 109) rfl ?_); refine goesL_ (some 46) rfl rfl Try.func109 (by kernel_rfl) rfl #[.slice A0_1 l0_1.length c0_1, .func (.func 110) #[] #[]] rfl (by (try simp only [List.map_toArray, List.map_cons, List.map_nil]); first | done | rfl | (simp only [List.length_drop, List.length_take]; rfl)) ?_; (with_reducible refine (api_SEdge_109.calls _ _ l0_1 true _ ?side1 ?side2 A21.out).mono ?_); (case side1 => repeat (first | exact (qk4 HR0_1.out HB.out) | (with_reducible refine Kd.C_alloc ?_ _) | (with_reducible refine Kd.C_drewN ?_ _) | (with_reducible refine Kd.C_drew ?_))); (case side2 => exact HC0_1.out); rintro e w24 ⟨rfl, hb⟩; refine ⟨_, rfl, ?_⟩; have n0_ := qam (blk_below (g := gb161) (o := .cells #[.slice A0_0 l0_0.length c0_0, .slice A0_1 l0_1.length c0_1, .int .i64 a0_2] 25 (0, 0)) (by (with_reducible repeat (first | refine qb3 ?_ _ | refine qb5 ?_ | refine qb4 ?_ _)); exact BK161.out) hb); have n1_ := qam (qw6 (by repeat (first | (with_reducible first | exact HB.out | apply qw1 | apply qw2 | apply qw3 | refine qw4 ?_ GE161.out) | exact HB.out)) hb); clear BK161; clear HB; have BK161 := n0_; have HB := n1_; clear n0_ n1_; (try clear hb); (try clear hb2); (try clear hk); (try clear hi); have hcz25_0 : w24.cell? ⟨gb161, 0, none⟩ = some (.slice A0_0 l0_0.length c0_0) := (qb1 BK161.out 0).trans rfl; have hcz25_1 : w24.cell? ⟨gb161, 1, none⟩ = some (.slice A0_1 l0_1.length c0_1) := (qb1 BK161.out 1).trans rfl; have hcz25_2 : w24.cell? ⟨gb161, 2, none⟩ = some (.int .i64 a0_2) := (qb1 BK161.out 2).trans rfl; have hfz25_0 := qb2 BK161.out 0; have hfz25_1 := qb2 BK161.out 1; have hfz25_2 := qb2 BK161.out 2))
         go_loopg [54] kj9 (fun kq v54 w' => ∃ (x54_3 : Int), v54 = .int .i64 x54_3 ∧ Aside0 (super_Check.l0 kq (l0_1.length : Int) x54_3 l0_0 l0_1 a0_2 = some r) ∧ Aside0 (kq ≤ kj9) ∧ Aside0 (w'.heap[gb161]? = some (.cells #[(.slice A0_0 l0_0.length c0_0), (.slice A0_1 l0_1.length c0_1), .int .i64 a0_2] 25 (0, 0))) ∧ Aside0 (Below w.heap.size w w'))
         case atStart => exact ⟨(0), (by first | rfl | (simp; done) | (simp [*]; done)), H', ⟨Nat.le_refl _⟩, ⟨by (with_reducible repeat (first | refine qb3 ?_ _ | refine qb5 ?_ | refine qb4 ?_ _)); exact BK161.out⟩, ⟨by repeat (first | (with_reducible first | exact HB.out | apply qw1 | apply qw2 | apply qw3 | refine qw4 ?_ GE161.out) | exact HB.out)⟩⟩
         case round =>
          clear H'
          try clear c1
          try clear p1
          try clear q1
          try clear hx1
          try clear c2
          try clear p2
          try clear c4
          try clear c4b0
          try clear c4b1
          try clear c5
          try clear c7
          try clear c9
          try clear c9b0
          try clear c9b1
          try clear c10
          try clear c13
          try clear c13b0
          try clear c15
          try clear c15b0
          try clear p16
          try clear q16
          try clear hx16
          try clear c17
          try clear c17b0
          try clear c18
          try clear c18b0
          try clear c20
          try clear c22
          try clear hcz11_0
          try clear hcz11_1
          try clear hcz11_2
          try clear hcz14_0
          try clear hcz14_1
          try clear hcz14_2
          try clear hcz16_0
          try clear hcz16_1
          try clear hcz16_2
          try clear hcz19_0
          try clear hcz19_1
          try clear hcz19_2
          try clear hcz23_0
          try clear hcz23_1
          try clear hcz23_2
          try clear hcz25_0
          try clear hcz25_1
          try clear hcz25_2
          try clear hcz5_0
          try clear hcz5_1
          try clear hcz5_2
          try clear hcz6_0
          try clear hcz6_1
          try clear hcz6_2
          try clear hfz11_0
          try clear hfz11_1
          try clear hfz11_2
          try clear hfz14_0
          try clear hfz14_1
          try clear hfz14_2
          try clear hfz16_0
          try clear hfz16_1
          try clear hfz16_2
          try clear hfz19_0
          try clear hfz19_1
          try clear hfz19_2
          try clear hfz23_0
          try clear hfz23_1
          try clear hfz23_2
          try clear hfz25_0
          try clear hfz25_1
          try clear hfz25_2
          try clear hfz5_0
          try clear hfz5_1
          try clear hfz5_2
          try clear hfz6_0
          try clear hfz6_1
          try clear hfz6_2
          try clear hx163_0
          try clear hx163_1
          try clear hx163_2
          try clear p1
          try clear p16
          try clear p163
          try clear p2
          try clear q1
          try clear q16
          try clear q163
          obtain ⟨x54_3, rfl, HA, HK3, BK161, HB⟩ := hrel
          cases gk with
          | zero => exact absurd HA.out (by simp [super_Check.l0])
          | succ k3 =>
           have H := HA.out
           clear HA
           simp only [super_Check.l0] at H
           by_cases c26 : x54_3 < (l0_1.length : Int)
           ·rw [if_pos c26] at H
            have c26b0 : decide (x54_3 < (l0_1.length : Int)) = true := decide_eq_true c26
            clear c26
            replace H := Option.bind_eq_some_iff.mp H
            obtain ⟨t166, A270, H⟩ := H
            replace H : (if t166 = 0 then (super_Check.l0 k3 (l0_1.length : Int) (wrap64 (x54_3 + 1)) l0_0 l0_1 a0_2) else (some t166)) = some r := H
            have A27 := qam A270
            clear A270
            by_cases c28 : t166 = 0
            ·rw [if_pos c28] at H
             have c28b0 : (t166 == 0) = true := beq_iff_eq.mpr c28
             have c28b1 : (t166 != 0) = false := bne_eq_false_iff_eq.mpr c28
             clear c28
             have H' := qam H
             clear H
             have hcz29_0 : wr.cell? ⟨gb161, 0, none⟩ = some (.slice A0_0 l0_0.length c0_0) := (qb1 BK161.out 0).trans rfl
             have hcz29_1 : wr.cell? ⟨gb161, 1, none⟩ = some (.slice A0_1 l0_1.length c0_1) := (qb1 BK161.out 1).trans rfl
             have hcz29_2 : wr.cell? ⟨gb161, 2, none⟩ = some (.int .i64 a0_2) := (qb1 BK161.out 2).trans rfl
             have hfz29_0 := qb2 BK161.out 0
             have hfz29_1 := qb2 BK161.out 1
             have hfz29_2 := qb2 BK161.out 2
             go_wp2_with (first | ((with_reducible refine gate_callee (f := 112) rfl ?_); refine goesL_ (some 59) rfl rfl Try.func112 (by kernel_rfl) rfl #[.agg #[.slice A0_0 l0_0.length c0_0, .slice A0_1 l0_1.length c0_1, .int .i64 a0_2], .int .i64 x54_3] rfl (by (try simp only [List.map_toArray, List.map_cons, List.map_nil]); first | done | rfl | (simp only [List.length_drop, List.length_take]; rfl)) ?_; (with_reducible refine (super_checkEdge.calls k3 _ _ l0_0 _ _ l0_1 a0_2 x54_3 t166 _ ?side1 ?side2 ?side3 ?side4 A27.out).mono ?_); (case side1 => repeat (first | exact (qk4 HR0_0.out HB.out) | (with_reducible refine Kd.C_alloc ?_ _) | (with_reducible refine Kd.C_drewN ?_ _) | (with_reducible refine Kd.C_drew ?_))); (case side2 => exact HC0_0.out); (case side3 => repeat (first | exact (qk4 HR0_1.out HB.out) | (with_reducible refine Kd.C_alloc ?_ _) | (with_reducible refine Kd.C_drewN ?_ _) | (with_reducible refine Kd.C_drew ?_))); (case side4 => exact HC0_1.out); rintro e w30 ⟨rfl, hb⟩; refine ⟨_, rfl, ?_⟩; have n0_ := qam (blk_below (g := gb161) (o := .cells #[.slice A0_0 l0_0.length c0_0, .slice A0_1 l0_1.length c0_1, .int .i64 a0_2] 25 (0, 0)) (by (with_reducible repeat (first | refine qb3 ?_ _ | refine qb5 ?_ | refine qb4 ?_ _)); exact BK161.out) hb); have n1_ := qam (qw6 (by repeat (first | (with_reducible first | exact HB.out | apply qw1 | apply qw2 | apply qw3 | refine qw4 ?_ GE161.out) | exact HB.out)) hb); clear BK161; clear HB; have BK161 := n0_; have HB := n1_; clear n0_ n1_; (try clear hb); (try clear hb2); (try clear hk); (try clear hi)))
             go_roundg k3
             case measure => have := HJ1.out; have := HJ9.out; have := HK3.out; omega
             case rel => exact ⟨(wrap64 (x54_3 + 1)), (by first | rfl | (simp; done) | (simp [*]; done)), H', ⟨by have := HJ1.out; have := HJ9.out; have := HK3.out; omega⟩, ⟨by (with_reducible repeat (first | refine qb3 ?_ _ | refine qb5 ?_ | refine qb4 ?_ _)); exact BK161.out⟩, ⟨by repeat (first | (with_reducible first | exact HB.out | apply qw1 | apply qw2 | apply qw3 | refine qw4 ?_ GE161.out) | exact HB.out)⟩⟩
            ·rw [if_neg c28] at H
             have c28b0 : (t166 == 0) = false := beq_eq_false_iff_ne.mpr c28
             have c28b1 : (t166 != 0) = true := bne_iff_ne.mpr c28
             obtain rfl := Option.some.inj H
             have hcz31_0 : wr.cell? ⟨gb161, 0, none⟩ = some (.slice A0_0 l0_0.length c0_0) := (qb1 BK161.out 0).trans rfl
             have hcz31_1 : wr.cell? ⟨gb161, 1, none⟩ = some (.slice A0_1 l0_1.length c0_1) := (qb1 BK161.out 1).trans rfl
             have hcz31_2 : wr.cell? ⟨gb161, 2, none⟩ = some (.int .i64 a0_2) := (qb1 BK161.out 2).trans rfl
             have hfz31_0 := qb2 BK161.out 0
             have hfz31_1 := qb2 BK161.out 1
             have hfz31_2 := qb2 BK161.out 2
             go_wp2_with (first | ((with_reducible refine gate_callee (f := 112) rfl ?_); refine goesL_ (some 59) rfl rfl Try.func112 (by kernel_rfl) rfl #[.agg #[.slice A0_0 l0_0.length c0_0, .slice A0_1 l0_1.length c0_1, .int .i64 a0_2], .int .i64 x54_3] rfl (by (try simp only [List.map_toArray, List.map_cons, List.map_nil]); first | done | rfl | (simp only [List.length_drop, List.length_take]; rfl)) ?_; (with_reducible refine (super_checkEdge.calls k3 _ _ l0_0 _ _ l0_1 a0_2 x54_3 t166 _ ?side1 ?side2 ?side3 ?side4 A27.out).mono ?_); (case side1 => repeat (first | exact (qk4 HR0_0.out HB.out) | (with_reducible refine Kd.C_alloc ?_ _) | (with_reducible refine Kd.C_drewN ?_ _) | (with_reducible refine Kd.C_drew ?_))); (case side2 => exact HC0_0.out); (case side3 => repeat (first | exact (qk4 HR0_1.out HB.out) | (with_reducible refine Kd.C_alloc ?_ _) | (with_reducible refine Kd.C_drewN ?_ _) | (with_reducible refine Kd.C_drew ?_))); (case side4 => exact HC0_1.out); rintro e w32 ⟨rfl, hb⟩; refine ⟨_, rfl, ?_⟩; have n0_ := qam (blk_below (g := gb161) (o := .cells #[.slice A0_0 l0_0.length c0_0, .slice A0_1 l0_1.length c0_1, .int .i64 a0_2] 25 (0, 0)) (by (with_reducible repeat (first | refine qb3 ?_ _ | refine qb5 ?_ | refine qb4 ?_ _)); exact BK161.out) hb); have n1_ := qam (qw6 (by repeat (first | (with_reducible first | exact HB.out | apply qw1 | apply qw2 | apply qw3 | refine qw4 ?_ GE161.out) | exact HB.out)) hb); clear BK161; clear HB; have BK161 := n0_; have HB := n1_; clear n0_ n1_; (try clear hb); (try clear hb2); (try clear hk); (try clear hi)))
             go_ret
             exact ⟨by first | rfl | (simp [errW_none, errW_some] <;> rfl) | (simp [*, errW_none, errW_some] <;> rfl), by repeat (first | (with_reducible first | exact HB.out | apply qw1 | apply qw2 | apply qw3 | refine qw4 ?_ GE161.out) | exact HB.out)⟩
           ·rw [if_neg c26] at H
            have c26b0 : decide (x54_3 < (l0_1.length : Int)) = false := decide_eq_false c26
            clear c26
            obtain rfl := Option.some.inj H
            go_wp2
            go_ret
            exact ⟨by first | rfl | (simp [errW_none, errW_some] <;> rfl) | (simp [*, errW_none, errW_some] <;> rfl), by repeat (first | (with_reducible first | exact HB.out | apply qw1 | apply qw2 | apply qw3 | refine qw4 ?_ GE161.out) | exact HB.out)⟩
        ·replace c22 := Bool.eq_false_iff.mpr c22
         subst c22
         have H1 : ((super_unsorted.f kj9 l0_0 l0_1 a0_2).bind fun t165 => (some t165)) = some r := by rw [if_neg (show ¬ (false = true) by decide)] at H; exact H
         clear H
         have H := H1
         clear H1
         replace H := Option.bind_eq_some_iff.mp H
         obtain ⟨t165, A330, H⟩ := H
         replace H : (some t165) = some r := H
         have A33 := qam A330
         clear A330
         obtain rfl := Option.some.inj H
         have hcz34_0 : wc.cell? ⟨gb161, 0, none⟩ = some (.slice A0_0 l0_0.length c0_0) := (qb1 BK161.out 0).trans rfl
         have hcz34_1 : wc.cell? ⟨gb161, 1, none⟩ = some (.slice A0_1 l0_1.length c0_1) := (qb1 BK161.out 1).trans rfl
         have hcz34_2 : wc.cell? ⟨gb161, 2, none⟩ = some (.int .i64 a0_2) := (qb1 BK161.out 2).trans rfl
         have hfz34_0 := qb2 BK161.out 0
         have hfz34_1 := qb2 BK161.out 1
         have hfz34_2 := qb2 BK161.out 2
         go_wp2_with (first | ((with_reducible refine gate_callee (f := 109) rfl ?_); refine goesL_ (some 46) rfl rfl Try.func109 (by kernel_rfl) rfl #[.slice A0_1 l0_1.length c0_1, .func (.func 110) #[] #[]] rfl (by (try simp only [List.map_toArray, List.map_cons, List.map_nil]); first | done | rfl | (simp only [List.length_drop, List.length_take]; rfl)) ?_; (with_reducible refine (api_SEdge_109.calls _ _ l0_1 false _ ?side1 ?side2 A21.out).mono ?_); (case side1 => repeat (first | exact (qk4 HR0_1.out HB.out) | (with_reducible refine Kd.C_alloc ?_ _) | (with_reducible refine Kd.C_drewN ?_ _) | (with_reducible refine Kd.C_drew ?_))); (case side2 => exact HC0_1.out); rintro e w35 ⟨rfl, hb⟩; refine ⟨_, rfl, ?_⟩; have n0_ := qam (blk_below (g := gb161) (o := .cells #[.slice A0_0 l0_0.length c0_0, .slice A0_1 l0_1.length c0_1, .int .i64 a0_2] 25 (0, 0)) (by (with_reducible repeat (first | refine qb3 ?_ _ | refine qb5 ?_ | refine qb4 ?_ _)); exact BK161.out) hb); have n1_ := qam (qw6 (by repeat (first | (with_reducible first | exact HB.out | apply qw1 | apply qw2 | apply qw3 | refine qw4 ?_ GE161.out) | exact HB.out)) hb); clear BK161; clear HB; have BK161 := n0_; have HB := n1_; clear n0_ n1_; (try clear hb); (try clear hb2); (try clear hk); (try clear hi); have hcz36_0 : w35.cell? ⟨gb161, 0, none⟩ = some (.slice A0_0 l0_0.length c0_0) := (qb1 BK161.out 0).trans rfl; have hcz36_1 : w35.cell? ⟨gb161, 1, none⟩ = some (.slice A0_1 l0_1.length c0_1) := (qb1 BK161.out 1).trans rfl; have hcz36_2 : w35.cell? ⟨gb161, 2, none⟩ = some (.int .i64 a0_2) := (qb1 BK161.out 2).trans rfl; have hfz36_0 := qb2 BK161.out 0; have hfz36_1 := qb2 BK161.out 1; have hfz36_2 := qb2 BK161.out 2) | ((with_reducible refine gate_callee (f := 111) rfl ?_); refine goesL_ (some 50) rfl rfl Try.func111 (by kernel_rfl) rfl #[.agg #[.slice A0_0 l0_0.length c0_0, .slice A0_1 l0_1.length c0_1, .int .i64 a0_2]] rfl (by (try simp only [List.map_toArray, List.map_cons, List.map_nil]); first | done | rfl | (simp only [List.length_drop, List.length_take]; rfl)) ?_; (with_reducible refine (super_unsorted.calls kj9 _ _ l0_0 _ _ l0_1 a0_2 t165 _ ?side1 ?side2 ?side3 ?side4 A33.out).mono ?_); (case side1 => repeat (first | exact (qk4 HR0_0.out HB.out) | (with_reducible refine Kd.C_alloc ?_ _) | (with_reducible refine Kd.C_drewN ?_ _) | (with_reducible refine Kd.C_drew ?_))); (case side2 => exact HC0_0.out); (case side3 => repeat (first | exact (qk4 HR0_1.out HB.out) | (with_reducible refine Kd.C_alloc ?_ _) | (with_reducible refine Kd.C_drewN ?_ _) | (with_reducible refine Kd.C_drew ?_))); (case side4 => exact HC0_1.out); rintro e w37 ⟨rfl, hb⟩; refine ⟨_, rfl, ?_⟩; have n0_ := qam (blk_below (g := gb161) (o := .cells #[.slice A0_0 l0_0.length c0_0, .slice A0_1 l0_1.length c0_1, .int .i64 a0_2] 25 (0, 0)) (by (with_reducible repeat (first | refine qb3 ?_ _ | refine qb5 ?_ | refine qb4 ?_ _)); exact BK161.out) hb); have n1_ := qam (qw6 (by repeat (first | (with_reducible first | exact HB.out | apply qw1 | apply qw2 | apply qw3 | refine qw4 ?_ GE161.out) | exact HB.out)) hb); clear BK161; clear HB; have BK161 := n0_; have HB := n1_; clear n0_ n1_; (try clear hb); (try clear hb2); (try clear hk); (try clear hi)))
         go_ret
         exact ⟨by first | rfl | (simp [errW_none, errW_some] <;> rfl) | (simp [*, errW_none, errW_some] <;> rfl), by repeat (first | (with_reducible first | exact HB.out | apply qw1 | apply qw2 | apply qw3 | refine qw4 ?_ GE161.out) | exact HB.out)⟩
    ·rw [if_neg c9] at H
     have c9b0 : (t162 == 0) = false := beq_eq_false_iff_ne.mpr c9
     have c9b1 : (t162 != 0) = true := bne_iff_ne.mpr c9
     obtain rfl := Option.some.inj H
     have hcz38_0 : wc.cell? ⟨gb161, 0, none⟩ = some (.slice A0_0 l0_0.length c0_0) := (qb1 BK161.out 0).trans rfl
     have hcz38_1 : wc.cell? ⟨gb161, 1, none⟩ = some (.slice A0_1 l0_1.length c0_1) := (qb1 BK161.out 1).trans rfl
     have hcz38_2 : wc.cell? ⟨gb161, 2, none⟩ = some (.int .i64 a0_2) := (qb1 BK161.out 2).trans rfl
     have hfz38_0 := qb2 BK161.out 0
     have hfz38_1 := qb2 BK161.out 1
     have hfz38_2 := qb2 BK161.out 2
     go_wp2_with (first | ((with_reducible refine gate_callee (f := 108) rfl ?_); refine goesL_ (some 19) rfl rfl Try.func108 (by kernel_rfl) rfl #[.slice A0_0 l0_0.length c0_0] rfl (by (try simp only [List.map_toArray, List.map_cons, List.map_nil]); first | done | rfl | (simp only [List.length_drop, List.length_take]; rfl)) ?_; (with_reducible refine (super_checkNodes.calls _ _ l0_0 t162 _ ?side1 ?side2 A8.out).mono ?_); (case side1 => repeat (first | exact (qk4 HR0_0.out HB.out) | (with_reducible refine Kd.C_alloc ?_ _) | (with_reducible refine Kd.C_drewN ?_ _) | (with_reducible refine Kd.C_drew ?_))); (case side2 => exact HC0_0.out); rintro e w39 ⟨rfl, hb⟩; refine ⟨_, rfl, ?_⟩; have n0_ := qam (blk_below (g := gb161) (o := .cells #[.slice A0_0 l0_0.length c0_0, .slice A0_1 l0_1.length c0_1, .int .i64 a0_2] 25 (0, 0)) (by (with_reducible repeat (first | refine qb3 ?_ _ | refine qb5 ?_ | refine qb4 ?_ _)); exact BK161.out) hb); have n1_ := qam (qw6 (by repeat (first | (with_reducible first | exact HB.out | apply qw1 | apply qw2 | apply qw3 | refine qw4 ?_ GE161.out) | exact HB.out)) hb); clear BK161; clear HB; have BK161 := n0_; have HB := n1_; clear n0_ n1_; (try clear hb); (try clear hb2); (try clear hk); (try clear hi)))
     go_ret
     exact ⟨by first | rfl | (simp [errW_none, errW_some] <;> rfl) | (simp [*, errW_none, errW_some] <;> rfl), by repeat (first | (with_reducible first | exact HB.out | apply qw1 | apply qw2 | apply qw3 | refine qw4 ?_ GE161.out) | exact HB.out)⟩

/-! ### vpath_begin: function 57 -/
def vpath_begin.f (k : Nat) (l0_0 : List (S35)) (l0_1 : List (S32)) (a0_2 : Int) (a1 : Int) : Option (Int × List Int × Int) := (super_Check.f k l0_0 l0_1 a0_2).bind fun t169 => (if t169 = 0 then (if a1 < 0 then (some (0, ([] : List Int), 4)) else (if a1 ≥ (l0_0.length : Int) then (some (0, ([] : List Int), 4)) else (some (a1, ([] : List Int), 0)))) else (some (0, ([] : List Int), t169)))
theorem vpath_begin.mono : ∀ a0 a1 a2 a3 k, LeO (vpath_begin.f k a0 a1 a2 a3) (vpath_begin.f (k + 1) a0 a1 a2 a3) := by
 intro a0 a1 a2 a3 k
 unfold vpath_begin.f
 repeat' first
   | (with_reducible exact super_Check.mono _ _ _ _)
   | (with_reducible exact LeO.refl _)
   | (with_reducible exact LeO.none _)
   | (with_reducible refine LeO.ite ?_ ?_)
   | (with_reducible refine LeO.bind ?_ (fun _ => ?_))
   | exact super_Check.mono _ _ _ _
   | exact LeO.none _
   | refine LeO.ite ?_ ?_
   | refine LeO.bind ?_ (fun _ => ?_)
set_option maxHeartbeats 8000000 in
set_option maxRecDepth 100000 in
theorem vpath_begin.calls (k : Nat) (A0_0 : Option Addr) (c0_0 : Nat) (l0_0 : List (S35)) (A0_1 : Option Addr) (c0_1 : Nat) (l0_1 : List (S32)) (a0_2 : Int) (a1 : Int) (r1 : Int) (r2 : List Int) (r3 : Int) (w : World) (hr0_0 : Kd.C k35 w A0_0 l0_0.length l0_0) (hc0_0 : l0_0.length ≤ c0_0) (hr0_1 : Kd.C k32 w A0_1 l0_1.length l0_1) (hc0_1 : l0_1.length ≤ c0_1) (h : vpath_begin.f k l0_0 l0_1 a0_2 a1 = some (r1, r2, r3)) :
  Calls Try.prog 57 #[.agg #[.slice A0_0 l0_0.length c0_0, .slice A0_1 l0_1.length c0_1, .int .i64 a0_2], .int .i64 a1] w fun e w' => ∃ v1_ : Value, e = .returned (.tuple #[.agg #[.int .i64 r1, v1_], .int .i64 r3]) ∧ Kd.R (Kd.int .i64) 3 w' w.heap.size (fun _ => True) v1_ r2 ∧ Below w.heap.size w w' := by
 have hu25 := Try.underlying25
 have hu102 := Try.underlying102
 have HR0_0 := qam hr0_0
 have HC0_0 := qam hc0_0
 clear hr0_0 hc0_0
 have HR0_1 := qam hr0_1
 have HC0_1 := qam hc0_1
 clear hr0_1 hc0_1
 have HB := qam (Below.refl w.heap.size w)
 have H : ((super_Check.f k l0_0 l0_1 a0_2).bind fun t169 => (if t169 = 0 then (if a1 < 0 then (some (0, ([] : List Int), 4)) else (if a1 ≥ (l0_0.length : Int) then (some (0, ([] : List Int), 4)) else (some (a1, ([] : List Int), 0)))) else (some (0, ([] : List Int), t169)))) = some (r1, r2, r3) := h
 clear h
 replace H := Option.bind_eq_some_iff.mp H
 obtain ⟨t169, A30, H⟩ := H
 replace H : (if t169 = 0 then (if a1 < 0 then (some (0, ([] : List Int), 4)) else (if a1 ≥ (l0_0.length : Int) then (some (0, ([] : List Int), 4)) else (some (a1, ([] : List Int), 0)))) else (some (0, ([] : List Int), t169))) = some (r1, r2, r3) := H
 have A3 := qam A30
 clear A30
 by_cases c4 : t169 = 0
 ·rw [if_pos c4] at H
  have c4b0 : (t169 == 0) = true := beq_iff_eq.mpr c4
  have c4b1 : (t169 != 0) = false := bne_eq_false_iff_eq.mpr c4
  clear c4
  by_cases c5 : a1 < 0
  ·rw [if_pos c5] at H
   have c5b0 : decide (a1 < 0) = true := decide_eq_true c5
   clear c5
   simp only [Option.some.injEq, Prod.mk.injEq] at H
   obtain ⟨rfl, rfl, rfl⟩ := H
   go_enter Try.func57, Try.ntmps57
   go_wp2_with (first | ((with_reducible refine gate_dst (N := 2) rfl ?_); (try (refine gate_guard (by rfl) ?_; dsimp only)); refine box_event ?hg (N := 2) ?hd (cs := #[.slice A0_0 l0_0.length c0_0, .slice A0_1 l0_1.length c0_1, .int .i64 a0_2]) (t := 25) ?hr ?_; (case hd => rfl); (case hg => rfl); (case hr => first | (go_simp; done) | (go_simp; rfl)); intro gb167 hg w6 hbox hb; have n0_ := qam (qw6 (by repeat (first | (with_reducible first | exact HB.out | apply qw1 | apply qw2 | apply qw3) | exact HB.out)) hb); have n1_ := qam (hbox); have n2_ := qam ((by rw [hg]; exact (qw5 (by repeat (first | (with_reducible first | exact HB.out | apply qw1 | apply qw2 | apply qw3) | exact HB.out))) : w.heap.size ≤ gb167)); have n3_ := qam ((by rw [hg]; exact (qw5 (by repeat (first | (with_reducible first | exact HB.out | apply qw1 | apply qw2 | apply qw3) | exact HB.out))) : w.heap.size ≤ gb167)); clear HB; have HB := n0_; have BK167 := n1_; have GW167 := n2_; have GE167 := n3_; clear n0_ n1_ n2_ n3_; clear hb hbox hg) | ((with_reducible refine gate_dst (N := 4) rfl ?_); (try (refine gate_guard (by rfl) ?_; dsimp only)); refine box_event ?hg (N := 4) ?hd (cs := #[.int .i64 0, .slice none 0 0]) (t := 102) ?hr ?_; (case hd => rfl); (case hg => rfl); (case hr => first | (go_simp; done) | (go_simp; rfl)); intro gb168 hg w7 hbox hb; have n0_ := qam (blk_below (g := gb167) (o := .cells #[.slice A0_0 l0_0.length c0_0, .slice A0_1 l0_1.length c0_1, .int .i64 a0_2] 25 (0, 0)) (by (with_reducible repeat (first | refine qb3 ?_ _ | refine qb5 ?_ | refine qb4 ?_ _)); exact BK167.out) hb); have n1_ := qam (qw6 (by repeat (first | (with_reducible first | exact HB.out | apply qw1 | apply qw2 | apply qw3 | refine qw4 ?_ GE167.out) | exact HB.out)) hb); have n2_ := qam (hbox); have n3_ := qam ((by rw [hg]; exact (qw5 (by repeat (first | (with_reducible first | exact HB.out | apply qw1 | apply qw2 | apply qw3 | refine qw4 ?_ GE167.out) | exact HB.out))) : w.heap.size ≤ gb168)); have n4_ := qam ((by rw [hg]; exact (qw5 (by repeat (first | (with_reducible first | exact HB.out | apply qw1 | apply qw2 | apply qw3 | refine qw4 ?_ GE167.out) | exact HB.out))) : w.heap.size ≤ gb168)); have n5_ := qam ((by rw [hg]; exact qnn (blk_lt (g := gb167) (o := .cells #[.slice A0_0 l0_0.length c0_0, .slice A0_1 l0_1.length c0_1, .int .i64 a0_2] 25 (0, 0)) (by (with_reducible repeat (first | refine qb3 ?_ _ | refine qb5 ?_ | refine qb4 ?_ _)); exact BK167.out)) : gb167 ≠ gb168)); have n6_ := qam ((by rw [hg]; exact Nat.ne_of_gt (blk_lt (g := gb167) (o := .cells #[.slice A0_0 l0_0.length c0_0, .slice A0_1 l0_1.length c0_1, .int .i64 a0_2] 25 (0, 0)) (by (with_reducible repeat (first | refine qb3 ?_ _ | refine qb5 ?_ | refine qb4 ?_ _)); exact BK167.out)) : gb168 ≠ gb167)); clear BK167; clear HB; have BK167 := n0_; have HB := n1_; have BK168 := n2_; have GW168 := n3_; have GE168 := n4_; have NB167_168 := n5_; have NB168_167 := n6_; clear n0_ n1_ n2_ n3_ n4_ n5_ n6_; clear hb hbox hg; have hnb8 := NB167_168.out; have hnc8 := NB168_167.out; have hcz9_0 : w7.cell? ⟨gb167, 0, none⟩ = some (.slice A0_0 l0_0.length c0_0) := (qb1 BK167.out 0).trans rfl; have hcz9_1 : w7.cell? ⟨gb167, 1, none⟩ = some (.slice A0_1 l0_1.length c0_1) := (qb1 BK167.out 1).trans rfl; have hcz9_2 : w7.cell? ⟨gb167, 2, none⟩ = some (.int .i64 a0_2) := (qb1 BK167.out 2).trans rfl; have hfz9_0 := qb2 BK167.out 0; have hfz9_1 := qb2 BK167.out 1; have hfz9_2 := qb2 BK167.out 2) | ((with_reducible refine gate_callee (f := 59) rfl ?_); refine goesL_ (some 8) rfl rfl Try.func59 (by kernel_rfl) rfl #[.agg #[.slice A0_0 l0_0.length c0_0, .slice A0_1 l0_1.length c0_1, .int .i64 a0_2]] rfl (by (try simp only [List.map_toArray, List.map_cons, List.map_nil]); first | done | rfl | (simp only [List.length_drop, List.length_take]; rfl)) ?_; (with_reducible refine (super_Check.calls k _ _ l0_0 _ _ l0_1 a0_2 t169 _ ?side1 ?side2 ?side3 ?side4 A3.out).mono ?_); (case side1 => repeat (first | exact (qk4 HR0_0.out HB.out) | (with_reducible refine Kd.C_alloc ?_ _) | (with_reducible refine Kd.C_drewN ?_ _) | (with_reducible refine Kd.C_drew ?_))); (case side2 => exact HC0_0.out); (case side3 => repeat (first | exact (qk4 HR0_1.out HB.out) | (with_reducible refine Kd.C_alloc ?_ _) | (with_reducible refine Kd.C_drewN ?_ _) | (with_reducible refine Kd.C_drew ?_))); (case side4 => exact HC0_1.out); rintro e w10 ⟨rfl, hb⟩; refine ⟨_, rfl, ?_⟩; have n0_ := qam (blk_below (g := gb167) (o := .cells #[.slice A0_0 l0_0.length c0_0, .slice A0_1 l0_1.length c0_1, .int .i64 a0_2] 25 (0, 0)) (by (with_reducible repeat (first | refine qb3 ?_ _ | refine qb5 ?_ | refine qb4 ?_ _)); exact BK167.out) hb); have n1_ := qam (blk_below (g := gb168) (o := .cells #[.int .i64 0, .slice none 0 0] 102 (0, 0)) (by (with_reducible repeat (first | refine qb3 ?_ _ | refine qb5 ?_ | refine qb4 ?_ _)); exact BK168.out) hb); have n2_ := qam (qw6 (by repeat (first | (with_reducible first | exact HB.out | apply qw1 | apply qw2 | apply qw3 | refine qw4 ?_ GE167.out | refine qw4 ?_ GE168.out) | exact HB.out)) hb); clear BK167; clear BK168; clear HB; have BK167 := n0_; have BK168 := n1_; have HB := n2_; clear n0_ n1_ n2_; (try clear hb); (try clear hb2); (try clear hk); (try clear hi); have hcz11_0 : w10.cell? ⟨gb168, 0, none⟩ = some (.int .i64 0) := (qb1 BK168.out 0).trans rfl; have hcz11_1 : w10.cell? ⟨gb168, 1, none⟩ = some (.slice none 0 0) := (qb1 BK168.out 1).trans rfl; have hfz11_0 := qb2 BK168.out 0; have hfz11_1 := qb2 BK168.out 1))
   refine bodyPost_ret (results_ct rfl _ _ gb168 102 #[.int .i64 0, .slice none 0 0] (0, 0) _ rfl (by (with_reducible repeat (first | refine qb3 ?_ _ | refine qb5 ?_ | refine qb4 ?_ _)); refine blk_put (cs := #[.int .i64 0, .slice none 0 0]) ?_ 1 _ rfl; (with_reducible repeat (first | refine qb3 ?_ _ | refine qb5 ?_ | refine qb4 ?_ _)); refine blk_put (cs := #[.int .i64 0, .slice none 0 0]) ?_ 0 _ rfl; (with_reducible repeat (first | refine qb3 ?_ _ | refine qb5 ?_ | refine qb4 ?_ _)); exact BK168.out) Try.underlying102 rfl (by kernel_rfl)) rfl ?_
   exact ⟨_, by first | rfl | (simp [errW_none, errW_some] <;> rfl) | (simp [*, errW_none, errW_some] <;> rfl), by first | exact Kd.R_nil _ _ _ _ _ | exact Kd.N_nil _ _ _ _ _ | exact Kd.V_nil _ _ _ _ _ | exact Kd.Q_nil _ _ _ _ _ | exact Kd.S_nil _ _ _ _ _, by repeat (first | (with_reducible first | exact HB.out | apply qw1 | apply qw2 | apply qw3 | refine qw4 ?_ GE167.out | refine qw4 ?_ GE168.out) | exact HB.out)⟩
  ·rw [if_neg c5] at H
   have c5b0 : decide (a1 < 0) = false := decide_eq_false c5
   clear c5
   by_cases c12 : a1 ≥ (l0_0.length : Int)
   ·rw [if_pos c12] at H
    have c12b0 : decide ((l0_0.length : Int) ≤ a1) = true := decide_eq_true c12
    clear c12
    simp only [Option.some.injEq, Prod.mk.injEq] at H
    obtain ⟨rfl, rfl, rfl⟩ := H
    go_enter Try.func57, Try.ntmps57
    go_wp2_with (first | ((with_reducible refine gate_dst (N := 2) rfl ?_); (try (refine gate_guard (by rfl) ?_; dsimp only)); refine box_event ?hg (N := 2) ?hd (cs := #[.slice A0_0 l0_0.length c0_0, .slice A0_1 l0_1.length c0_1, .int .i64 a0_2]) (t := 25) ?hr ?_; (case hd => rfl); (case hg => rfl); (case hr => first | (go_simp; done) | (go_simp; rfl)); intro gb167 hg w13 hbox hb; have n0_ := qam (qw6 (by repeat (first | (with_reducible first | exact HB.out | apply qw1 | apply qw2 | apply qw3) | exact HB.out)) hb); have n1_ := qam (hbox); have n2_ := qam ((by rw [hg]; exact (qw5 (by repeat (first | (with_reducible first | exact HB.out | apply qw1 | apply qw2 | apply qw3) | exact HB.out))) : w.heap.size ≤ gb167)); have n3_ := qam ((by rw [hg]; exact (qw5 (by repeat (first | (with_reducible first | exact HB.out | apply qw1 | apply qw2 | apply qw3) | exact HB.out))) : w.heap.size ≤ gb167)); clear HB; have HB := n0_; have BK167 := n1_; have GW167 := n2_; have GE167 := n3_; clear n0_ n1_ n2_ n3_; clear hb hbox hg) | ((with_reducible refine gate_dst (N := 4) rfl ?_); (try (refine gate_guard (by rfl) ?_; dsimp only)); refine box_event ?hg (N := 4) ?hd (cs := #[.int .i64 0, .slice none 0 0]) (t := 102) ?hr ?_; (case hd => rfl); (case hg => rfl); (case hr => first | (go_simp; done) | (go_simp; rfl)); intro gb168 hg w14 hbox hb; have n0_ := qam (blk_below (g := gb167) (o := .cells #[.slice A0_0 l0_0.length c0_0, .slice A0_1 l0_1.length c0_1, .int .i64 a0_2] 25 (0, 0)) (by (with_reducible repeat (first | refine qb3 ?_ _ | refine qb5 ?_ | refine qb4 ?_ _)); exact BK167.out) hb); have n1_ := qam (qw6 (by repeat (first | (with_reducible first | exact HB.out | apply qw1 | apply qw2 | apply qw3 | refine qw4 ?_ GE167.out) | exact HB.out)) hb); have n2_ := qam (hbox); have n3_ := qam ((by rw [hg]; exact (qw5 (by repeat (first | (with_reducible first | exact HB.out | apply qw1 | apply qw2 | apply qw3 | refine qw4 ?_ GE167.out) | exact HB.out))) : w.heap.size ≤ gb168)); have n4_ := qam ((by rw [hg]; exact (qw5 (by repeat (first | (with_reducible first | exact HB.out | apply qw1 | apply qw2 | apply qw3 | refine qw4 ?_ GE167.out) | exact HB.out))) : w.heap.size ≤ gb168)); have n5_ := qam ((by rw [hg]; exact qnn (blk_lt (g := gb167) (o := .cells #[.slice A0_0 l0_0.length c0_0, .slice A0_1 l0_1.length c0_1, .int .i64 a0_2] 25 (0, 0)) (by (with_reducible repeat (first | refine qb3 ?_ _ | refine qb5 ?_ | refine qb4 ?_ _)); exact BK167.out)) : gb167 ≠ gb168)); have n6_ := qam ((by rw [hg]; exact Nat.ne_of_gt (blk_lt (g := gb167) (o := .cells #[.slice A0_0 l0_0.length c0_0, .slice A0_1 l0_1.length c0_1, .int .i64 a0_2] 25 (0, 0)) (by (with_reducible repeat (first | refine qb3 ?_ _ | refine qb5 ?_ | refine qb4 ?_ _)); exact BK167.out)) : gb168 ≠ gb167)); clear BK167; clear HB; have BK167 := n0_; have HB := n1_; have BK168 := n2_; have GW168 := n3_; have GE168 := n4_; have NB167_168 := n5_; have NB168_167 := n6_; clear n0_ n1_ n2_ n3_ n4_ n5_ n6_; clear hb hbox hg; have hnb15 := NB167_168.out; have hnc15 := NB168_167.out; have hcz16_0 : w14.cell? ⟨gb167, 0, none⟩ = some (.slice A0_0 l0_0.length c0_0) := (qb1 BK167.out 0).trans rfl; have hcz16_1 : w14.cell? ⟨gb167, 1, none⟩ = some (.slice A0_1 l0_1.length c0_1) := (qb1 BK167.out 1).trans rfl; have hcz16_2 : w14.cell? ⟨gb167, 2, none⟩ = some (.int .i64 a0_2) := (qb1 BK167.out 2).trans rfl; have hfz16_0 := qb2 BK167.out 0; have hfz16_1 := qb2 BK167.out 1; have hfz16_2 := qb2 BK167.out 2) | ((with_reducible refine gate_callee (f := 59) rfl ?_); refine goesL_ (some 8) rfl rfl Try.func59 (by kernel_rfl) rfl #[.agg #[.slice A0_0 l0_0.length c0_0, .slice A0_1 l0_1.length c0_1, .int .i64 a0_2]] rfl (by (try simp only [List.map_toArray, List.map_cons, List.map_nil]); first | done | rfl | (simp only [List.length_drop, List.length_take]; rfl)) ?_; (with_reducible refine (super_Check.calls k _ _ l0_0 _ _ l0_1 a0_2 t169 _ ?side1 ?side2 ?side3 ?side4 A3.out).mono ?_); (case side1 => repeat (first | exact (qk4 HR0_0.out HB.out) | (with_reducible refine Kd.C_alloc ?_ _) | (with_reducible refine Kd.C_drewN ?_ _) | (with_reducible refine Kd.C_drew ?_))); (case side2 => exact HC0_0.out); (case side3 => repeat (first | exact (qk4 HR0_1.out HB.out) | (with_reducible refine Kd.C_alloc ?_ _) | (with_reducible refine Kd.C_drewN ?_ _) | (with_reducible refine Kd.C_drew ?_))); (case side4 => exact HC0_1.out); rintro e w17 ⟨rfl, hb⟩; refine ⟨_, rfl, ?_⟩; have n0_ := qam (blk_below (g := gb167) (o := .cells #[.slice A0_0 l0_0.length c0_0, .slice A0_1 l0_1.length c0_1, .int .i64 a0_2] 25 (0, 0)) (by (with_reducible repeat (first | refine qb3 ?_ _ | refine qb5 ?_ | refine qb4 ?_ _)); exact BK167.out) hb); have n1_ := qam (blk_below (g := gb168) (o := .cells #[.int .i64 0, .slice none 0 0] 102 (0, 0)) (by (with_reducible repeat (first | refine qb3 ?_ _ | refine qb5 ?_ | refine qb4 ?_ _)); exact BK168.out) hb); have n2_ := qam (qw6 (by repeat (first | (with_reducible first | exact HB.out | apply qw1 | apply qw2 | apply qw3 | refine qw4 ?_ GE167.out | refine qw4 ?_ GE168.out) | exact HB.out)) hb); clear BK167; clear BK168; clear HB; have BK167 := n0_; have BK168 := n1_; have HB := n2_; clear n0_ n1_ n2_; (try clear hb); (try clear hb2); (try clear hk); (try clear hi); have hcz18_0 : w17.cell? ⟨gb167, 0, none⟩ = some (.slice A0_0 l0_0.length c0_0) := (qb1 BK167.out 0).trans rfl; have hcz18_1 : w17.cell? ⟨gb167, 1, none⟩ = some (.slice A0_1 l0_1.length c0_1) := (qb1 BK167.out 1).trans rfl; have hcz18_2 : w17.cell? ⟨gb167, 2, none⟩ = some (.int .i64 a0_2) := (qb1 BK167.out 2).trans rfl; have hfz18_0 := qb2 BK167.out 0; have hfz18_1 := qb2 BK167.out 1; have hfz18_2 := qb2 BK167.out 2; have hcz19_0 : w17.cell? ⟨gb168, 0, none⟩ = some (.int .i64 0) := (qb1 BK168.out 0).trans rfl; have hcz19_1 : w17.cell? ⟨gb168, 1, none⟩ = some (.slice none 0 0) := (qb1 BK168.out 1).trans rfl; have hfz19_0 := qb2 BK168.out 0; have hfz19_1 := qb2 BK168.out 1))
    refine bodyPost_ret (results_ct rfl _ _ gb168 102 #[.int .i64 0, .slice none 0 0] (0, 0) _ rfl (by (with_reducible repeat (first | refine qb3 ?_ _ | refine qb5 ?_ | refine qb4 ?_ _)); refine blk_put (cs := #[.int .i64 0, .slice none 0 0]) ?_ 1 _ rfl; (with_reducible repeat (first | refine qb3 ?_ _ | refine qb5 ?_ | refine qb4 ?_ _)); refine blk_put (cs := #[.int .i64 0, .slice none 0 0]) ?_ 0 _ rfl; (with_reducible repeat (first | refine qb3 ?_ _ | refine qb5 ?_ | refine qb4 ?_ _)); exact BK168.out) Try.underlying102 rfl (by kernel_rfl)) rfl ?_
    exact ⟨_, by first | rfl | (simp [errW_none, errW_some] <;> rfl) | (simp [*, errW_none, errW_some] <;> rfl), by first | exact Kd.R_nil _ _ _ _ _ | exact Kd.N_nil _ _ _ _ _ | exact Kd.V_nil _ _ _ _ _ | exact Kd.Q_nil _ _ _ _ _ | exact Kd.S_nil _ _ _ _ _, by repeat (first | (with_reducible first | exact HB.out | apply qw1 | apply qw2 | apply qw3 | refine qw4 ?_ GE167.out | refine qw4 ?_ GE168.out) | exact HB.out)⟩
   ·rw [if_neg c12] at H
    have c12b0 : decide ((l0_0.length : Int) ≤ a1) = false := decide_eq_false c12
    clear c12
    simp only [Option.some.injEq, Prod.mk.injEq] at H
    obtain ⟨rfl, rfl, rfl⟩ := H
    go_enter Try.func57, Try.ntmps57
    go_wp2_with (first | ((with_reducible refine gate_dst (N := 2) rfl ?_); (try (refine gate_guard (by rfl) ?_; dsimp only)); refine box_event ?hg (N := 2) ?hd (cs := #[.slice A0_0 l0_0.length c0_0, .slice A0_1 l0_1.length c0_1, .int .i64 a0_2]) (t := 25) ?hr ?_; (case hd => rfl); (case hg => rfl); (case hr => first | (go_simp; done) | (go_simp; rfl)); intro gb167 hg w20 hbox hb; have n0_ := qam (qw6 (by repeat (first | (with_reducible first | exact HB.out | apply qw1 | apply qw2 | apply qw3) | exact HB.out)) hb); have n1_ := qam (hbox); have n2_ := qam ((by rw [hg]; exact (qw5 (by repeat (first | (with_reducible first | exact HB.out | apply qw1 | apply qw2 | apply qw3) | exact HB.out))) : w.heap.size ≤ gb167)); have n3_ := qam ((by rw [hg]; exact (qw5 (by repeat (first | (with_reducible first | exact HB.out | apply qw1 | apply qw2 | apply qw3) | exact HB.out))) : w.heap.size ≤ gb167)); clear HB; have HB := n0_; have BK167 := n1_; have GW167 := n2_; have GE167 := n3_; clear n0_ n1_ n2_ n3_; clear hb hbox hg) | ((with_reducible refine gate_dst (N := 4) rfl ?_); (try (refine gate_guard (by rfl) ?_; dsimp only)); refine box_event ?hg (N := 4) ?hd (cs := #[.int .i64 0, .slice none 0 0]) (t := 102) ?hr ?_; (case hd => rfl); (case hg => rfl); (case hr => first | (go_simp; done) | (go_simp; rfl)); intro gb168 hg w21 hbox hb; have n0_ := qam (blk_below (g := gb167) (o := .cells #[.slice A0_0 l0_0.length c0_0, .slice A0_1 l0_1.length c0_1, .int .i64 a0_2] 25 (0, 0)) (by (with_reducible repeat (first | refine qb3 ?_ _ | refine qb5 ?_ | refine qb4 ?_ _)); exact BK167.out) hb); have n1_ := qam (qw6 (by repeat (first | (with_reducible first | exact HB.out | apply qw1 | apply qw2 | apply qw3 | refine qw4 ?_ GE167.out) | exact HB.out)) hb); have n2_ := qam (hbox); have n3_ := qam ((by rw [hg]; exact (qw5 (by repeat (first | (with_reducible first | exact HB.out | apply qw1 | apply qw2 | apply qw3 | refine qw4 ?_ GE167.out) | exact HB.out))) : w.heap.size ≤ gb168)); have n4_ := qam ((by rw [hg]; exact (qw5 (by repeat (first | (with_reducible first | exact HB.out | apply qw1 | apply qw2 | apply qw3 | refine qw4 ?_ GE167.out) | exact HB.out))) : w.heap.size ≤ gb168)); have n5_ := qam ((by rw [hg]; exact qnn (blk_lt (g := gb167) (o := .cells #[.slice A0_0 l0_0.length c0_0, .slice A0_1 l0_1.length c0_1, .int .i64 a0_2] 25 (0, 0)) (by (with_reducible repeat (first | refine qb3 ?_ _ | refine qb5 ?_ | refine qb4 ?_ _)); exact BK167.out)) : gb167 ≠ gb168)); have n6_ := qam ((by rw [hg]; exact Nat.ne_of_gt (blk_lt (g := gb167) (o := .cells #[.slice A0_0 l0_0.length c0_0, .slice A0_1 l0_1.length c0_1, .int .i64 a0_2] 25 (0, 0)) (by (with_reducible repeat (first | refine qb3 ?_ _ | refine qb5 ?_ | refine qb4 ?_ _)); exact BK167.out)) : gb168 ≠ gb167)); clear BK167; clear HB; have BK167 := n0_; have HB := n1_; have BK168 := n2_; have GW168 := n3_; have GE168 := n4_; have NB167_168 := n5_; have NB168_167 := n6_; clear n0_ n1_ n2_ n3_ n4_ n5_ n6_; clear hb hbox hg; have hnb22 := NB167_168.out; have hnc22 := NB168_167.out; have hcz23_0 : w21.cell? ⟨gb167, 0, none⟩ = some (.slice A0_0 l0_0.length c0_0) := (qb1 BK167.out 0).trans rfl; have hcz23_1 : w21.cell? ⟨gb167, 1, none⟩ = some (.slice A0_1 l0_1.length c0_1) := (qb1 BK167.out 1).trans rfl; have hcz23_2 : w21.cell? ⟨gb167, 2, none⟩ = some (.int .i64 a0_2) := (qb1 BK167.out 2).trans rfl; have hfz23_0 := qb2 BK167.out 0; have hfz23_1 := qb2 BK167.out 1; have hfz23_2 := qb2 BK167.out 2) | ((with_reducible refine gate_callee (f := 59) rfl ?_); refine goesL_ (some 8) rfl rfl Try.func59 (by kernel_rfl) rfl #[.agg #[.slice A0_0 l0_0.length c0_0, .slice A0_1 l0_1.length c0_1, .int .i64 a0_2]] rfl (by (try simp only [List.map_toArray, List.map_cons, List.map_nil]); first | done | rfl | (simp only [List.length_drop, List.length_take]; rfl)) ?_; (with_reducible refine (super_Check.calls k _ _ l0_0 _ _ l0_1 a0_2 t169 _ ?side1 ?side2 ?side3 ?side4 A3.out).mono ?_); (case side1 => repeat (first | exact (qk4 HR0_0.out HB.out) | (with_reducible refine Kd.C_alloc ?_ _) | (with_reducible refine Kd.C_drewN ?_ _) | (with_reducible refine Kd.C_drew ?_))); (case side2 => exact HC0_0.out); (case side3 => repeat (first | exact (qk4 HR0_1.out HB.out) | (with_reducible refine Kd.C_alloc ?_ _) | (with_reducible refine Kd.C_drewN ?_ _) | (with_reducible refine Kd.C_drew ?_))); (case side4 => exact HC0_1.out); rintro e w24 ⟨rfl, hb⟩; refine ⟨_, rfl, ?_⟩; have n0_ := qam (blk_below (g := gb167) (o := .cells #[.slice A0_0 l0_0.length c0_0, .slice A0_1 l0_1.length c0_1, .int .i64 a0_2] 25 (0, 0)) (by (with_reducible repeat (first | refine qb3 ?_ _ | refine qb5 ?_ | refine qb4 ?_ _)); exact BK167.out) hb); have n1_ := qam (blk_below (g := gb168) (o := .cells #[.int .i64 0, .slice none 0 0] 102 (0, 0)) (by (with_reducible repeat (first | refine qb3 ?_ _ | refine qb5 ?_ | refine qb4 ?_ _)); exact BK168.out) hb); have n2_ := qam (qw6 (by repeat (first | (with_reducible first | exact HB.out | apply qw1 | apply qw2 | apply qw3 | refine qw4 ?_ GE167.out | refine qw4 ?_ GE168.out) | exact HB.out)) hb); clear BK167; clear BK168; clear HB; have BK167 := n0_; have BK168 := n1_; have HB := n2_; clear n0_ n1_ n2_; (try clear hb); (try clear hb2); (try clear hk); (try clear hi); have hcz25_0 : w24.cell? ⟨gb167, 0, none⟩ = some (.slice A0_0 l0_0.length c0_0) := (qb1 BK167.out 0).trans rfl; have hcz25_1 : w24.cell? ⟨gb167, 1, none⟩ = some (.slice A0_1 l0_1.length c0_1) := (qb1 BK167.out 1).trans rfl; have hcz25_2 : w24.cell? ⟨gb167, 2, none⟩ = some (.int .i64 a0_2) := (qb1 BK167.out 2).trans rfl; have hfz25_0 := qb2 BK167.out 0; have hfz25_1 := qb2 BK167.out 1; have hfz25_2 := qb2 BK167.out 2; have hcz26_0 : w24.cell? ⟨gb168, 0, none⟩ = some (.int .i64 0) := (qb1 BK168.out 0).trans rfl; have hcz26_1 : w24.cell? ⟨gb168, 1, none⟩ = some (.slice none 0 0) := (qb1 BK168.out 1).trans rfl; have hfz26_0 := qb2 BK168.out 0; have hfz26_1 := qb2 BK168.out 1))
    refine bodyPost_ret (results_ct rfl _ _ gb168 102 #[.int .i64 a1, .slice none 0 0] (0, 0) _ rfl (by (with_reducible repeat (first | refine qb3 ?_ _ | refine qb5 ?_ | refine qb4 ?_ _)); refine blk_put (cs := #[.int .i64 a1, .slice none 0 0]) ?_ 1 _ rfl; (with_reducible repeat (first | refine qb3 ?_ _ | refine qb5 ?_ | refine qb4 ?_ _)); refine blk_put (cs := #[.int .i64 0, .slice none 0 0]) ?_ 0 _ rfl; (with_reducible repeat (first | refine qb3 ?_ _ | refine qb5 ?_ | refine qb4 ?_ _)); exact BK168.out) Try.underlying102 rfl (by kernel_rfl)) rfl ?_
    exact ⟨_, by first | rfl | (simp [errW_none, errW_some] <;> rfl) | (simp [*, errW_none, errW_some] <;> rfl), by first | exact Kd.R_nil _ _ _ _ _ | exact Kd.N_nil _ _ _ _ _ | exact Kd.V_nil _ _ _ _ _ | exact Kd.Q_nil _ _ _ _ _ | exact Kd.S_nil _ _ _ _ _, by repeat (first | (with_reducible first | exact HB.out | apply qw1 | apply qw2 | apply qw3 | refine qw4 ?_ GE167.out | refine qw4 ?_ GE168.out) | exact HB.out)⟩
 ·rw [if_neg c4] at H
  have c4b0 : (t169 == 0) = false := beq_eq_false_iff_ne.mpr c4
  have c4b1 : (t169 != 0) = true := bne_iff_ne.mpr c4
  simp only [Option.some.injEq, Prod.mk.injEq] at H
  obtain ⟨rfl, rfl, rfl⟩ := H
  go_enter Try.func57, Try.ntmps57
  go_wp2_with (first | ((with_reducible refine gate_dst (N := 2) rfl ?_); (try (refine gate_guard (by rfl) ?_; dsimp only)); refine box_event ?hg (N := 2) ?hd (cs := #[.slice A0_0 l0_0.length c0_0, .slice A0_1 l0_1.length c0_1, .int .i64 a0_2]) (t := 25) ?hr ?_; (case hd => rfl); (case hg => rfl); (case hr => first | (go_simp; done) | (go_simp; rfl)); intro gb167 hg w27 hbox hb; have n0_ := qam (qw6 (by repeat (first | (with_reducible first | exact HB.out | apply qw1 | apply qw2 | apply qw3) | exact HB.out)) hb); have n1_ := qam (hbox); have n2_ := qam ((by rw [hg]; exact (qw5 (by repeat (first | (with_reducible first | exact HB.out | apply qw1 | apply qw2 | apply qw3) | exact HB.out))) : w.heap.size ≤ gb167)); have n3_ := qam ((by rw [hg]; exact (qw5 (by repeat (first | (with_reducible first | exact HB.out | apply qw1 | apply qw2 | apply qw3) | exact HB.out))) : w.heap.size ≤ gb167)); clear HB; have HB := n0_; have BK167 := n1_; have GW167 := n2_; have GE167 := n3_; clear n0_ n1_ n2_ n3_; clear hb hbox hg) | ((with_reducible refine gate_dst (N := 4) rfl ?_); (try (refine gate_guard (by rfl) ?_; dsimp only)); refine box_event ?hg (N := 4) ?hd (cs := #[.int .i64 0, .slice none 0 0]) (t := 102) ?hr ?_; (case hd => rfl); (case hg => rfl); (case hr => first | (go_simp; done) | (go_simp; rfl)); intro gb168 hg w28 hbox hb; have n0_ := qam (blk_below (g := gb167) (o := .cells #[.slice A0_0 l0_0.length c0_0, .slice A0_1 l0_1.length c0_1, .int .i64 a0_2] 25 (0, 0)) (by (with_reducible repeat (first | refine qb3 ?_ _ | refine qb5 ?_ | refine qb4 ?_ _)); exact BK167.out) hb); have n1_ := qam (qw6 (by repeat (first | (with_reducible first | exact HB.out | apply qw1 | apply qw2 | apply qw3 | refine qw4 ?_ GE167.out) | exact HB.out)) hb); have n2_ := qam (hbox); have n3_ := qam ((by rw [hg]; exact (qw5 (by repeat (first | (with_reducible first | exact HB.out | apply qw1 | apply qw2 | apply qw3 | refine qw4 ?_ GE167.out) | exact HB.out))) : w.heap.size ≤ gb168)); have n4_ := qam ((by rw [hg]; exact (qw5 (by repeat (first | (with_reducible first | exact HB.out | apply qw1 | apply qw2 | apply qw3 | refine qw4 ?_ GE167.out) | exact HB.out))) : w.heap.size ≤ gb168)); have n5_ := qam ((by rw [hg]; exact qnn (blk_lt (g := gb167) (o := .cells #[.slice A0_0 l0_0.length c0_0, .slice A0_1 l0_1.length c0_1, .int .i64 a0_2] 25 (0, 0)) (by (with_reducible repeat (first | refine qb3 ?_ _ | refine qb5 ?_ | refine qb4 ?_ _)); exact BK167.out)) : gb167 ≠ gb168)); have n6_ := qam ((by rw [hg]; exact Nat.ne_of_gt (blk_lt (g := gb167) (o := .cells #[.slice A0_0 l0_0.length c0_0, .slice A0_1 l0_1.length c0_1, .int .i64 a0_2] 25 (0, 0)) (by (with_reducible repeat (first | refine qb3 ?_ _ | refine qb5 ?_ | refine qb4 ?_ _)); exact BK167.out)) : gb168 ≠ gb167)); clear BK167; clear HB; have BK167 := n0_; have HB := n1_; have BK168 := n2_; have GW168 := n3_; have GE168 := n4_; have NB167_168 := n5_; have NB168_167 := n6_; clear n0_ n1_ n2_ n3_ n4_ n5_ n6_; clear hb hbox hg; have hnb29 := NB167_168.out; have hnc29 := NB168_167.out; have hcz30_0 : w28.cell? ⟨gb167, 0, none⟩ = some (.slice A0_0 l0_0.length c0_0) := (qb1 BK167.out 0).trans rfl; have hcz30_1 : w28.cell? ⟨gb167, 1, none⟩ = some (.slice A0_1 l0_1.length c0_1) := (qb1 BK167.out 1).trans rfl; have hcz30_2 : w28.cell? ⟨gb167, 2, none⟩ = some (.int .i64 a0_2) := (qb1 BK167.out 2).trans rfl; have hfz30_0 := qb2 BK167.out 0; have hfz30_1 := qb2 BK167.out 1; have hfz30_2 := qb2 BK167.out 2) | ((with_reducible refine gate_callee (f := 59) rfl ?_); refine goesL_ (some 8) rfl rfl Try.func59 (by kernel_rfl) rfl #[.agg #[.slice A0_0 l0_0.length c0_0, .slice A0_1 l0_1.length c0_1, .int .i64 a0_2]] rfl (by (try simp only [List.map_toArray, List.map_cons, List.map_nil]); first | done | rfl | (simp only [List.length_drop, List.length_take]; rfl)) ?_; (with_reducible refine (super_Check.calls k _ _ l0_0 _ _ l0_1 a0_2 t169 _ ?side1 ?side2 ?side3 ?side4 A3.out).mono ?_); (case side1 => repeat (first | exact (qk4 HR0_0.out HB.out) | (with_reducible refine Kd.C_alloc ?_ _) | (with_reducible refine Kd.C_drewN ?_ _) | (with_reducible refine Kd.C_drew ?_))); (case side2 => exact HC0_0.out); (case side3 => repeat (first | exact (qk4 HR0_1.out HB.out) | (with_reducible refine Kd.C_alloc ?_ _) | (with_reducible refine Kd.C_drewN ?_ _) | (with_reducible refine Kd.C_drew ?_))); (case side4 => exact HC0_1.out); rintro e w31 ⟨rfl, hb⟩; refine ⟨_, rfl, ?_⟩; have n0_ := qam (blk_below (g := gb167) (o := .cells #[.slice A0_0 l0_0.length c0_0, .slice A0_1 l0_1.length c0_1, .int .i64 a0_2] 25 (0, 0)) (by (with_reducible repeat (first | refine qb3 ?_ _ | refine qb5 ?_ | refine qb4 ?_ _)); exact BK167.out) hb); have n1_ := qam (blk_below (g := gb168) (o := .cells #[.int .i64 0, .slice none 0 0] 102 (0, 0)) (by (with_reducible repeat (first | refine qb3 ?_ _ | refine qb5 ?_ | refine qb4 ?_ _)); exact BK168.out) hb); have n2_ := qam (qw6 (by repeat (first | (with_reducible first | exact HB.out | apply qw1 | apply qw2 | apply qw3 | refine qw4 ?_ GE167.out | refine qw4 ?_ GE168.out) | exact HB.out)) hb); clear BK167; clear BK168; clear HB; have BK167 := n0_; have BK168 := n1_; have HB := n2_; clear n0_ n1_ n2_; (try clear hb); (try clear hb2); (try clear hk); (try clear hi); have hcz32_0 : w31.cell? ⟨gb168, 0, none⟩ = some (.int .i64 0) := (qb1 BK168.out 0).trans rfl; have hcz32_1 : w31.cell? ⟨gb168, 1, none⟩ = some (.slice none 0 0) := (qb1 BK168.out 1).trans rfl; have hfz32_0 := qb2 BK168.out 0; have hfz32_1 := qb2 BK168.out 1))
  refine bodyPost_ret (results_ct rfl _ _ gb168 102 #[.int .i64 0, .slice none 0 0] (0, 0) _ rfl (by (with_reducible repeat (first | refine qb3 ?_ _ | refine qb5 ?_ | refine qb4 ?_ _)); refine blk_put (cs := #[.int .i64 0, .slice none 0 0]) ?_ 1 _ rfl; (with_reducible repeat (first | refine qb3 ?_ _ | refine qb5 ?_ | refine qb4 ?_ _)); refine blk_put (cs := #[.int .i64 0, .slice none 0 0]) ?_ 0 _ rfl; (with_reducible repeat (first | refine qb3 ?_ _ | refine qb5 ?_ | refine qb4 ?_ _)); exact BK168.out) Try.underlying102 rfl (by kernel_rfl)) rfl ?_
  exact ⟨_, by first | rfl | (simp [errW_none, errW_some] <;> rfl) | (simp [*, errW_none, errW_some] <;> rfl), by first | exact Kd.R_nil _ _ _ _ _ | exact Kd.N_nil _ _ _ _ _ | exact Kd.V_nil _ _ _ _ _ | exact Kd.Q_nil _ _ _ _ _ | exact Kd.S_nil _ _ _ _ _, by repeat (first | (with_reducible first | exact HB.out | apply qw1 | apply qw2 | apply qw3 | refine qw4 ?_ GE167.out | refine qw4 ?_ GE168.out) | exact HB.out)⟩

/-! ### vpath_returns: function 63 -/
def vpath_returns.f (a0_0 : Int) (a0_1 : Int) (a0_2 : Int) (a0_3 : Int) : Option (Bool) := if a0_2 = 3 then (some true) else (some (a0_2 == 4))
set_option maxHeartbeats 8000000 in
set_option maxRecDepth 100000 in
theorem vpath_returns.calls (a0_0 : Int) (a0_1 : Int) (a0_2 : Int) (a0_3 : Int) (r : Bool) (w : World) (h : vpath_returns.f a0_0 a0_1 a0_2 a0_3 = some r) :
  Calls Try.prog 63 #[.agg #[.int .i64 a0_0, .int .i64 a0_1, .int .i64 a0_2, .int .i64 a0_3]] w fun e w' => e = .returned (.bool r) ∧ Below w.heap.size w w' := by
 have hu32 := Try.underlying32
 have HB := qam (Below.refl w.heap.size w)
 have H : (if a0_2 = 3 then (some true) else (some (a0_2 == 4))) = some r := h
 clear h
 by_cases c2 : a0_2 = 3
 ·rw [if_pos c2] at H
  have c2b0 : (a0_2 == 3) = true := beq_iff_eq.mpr c2
  have c2b1 : (a0_2 != 3) = false := bne_eq_false_iff_eq.mpr c2
  clear c2
  obtain rfl := Option.some.inj H
  go_enter Try.func63, Try.ntmps63
  go_wp2_with (first | ((with_reducible refine gate_dst (N := 1) rfl ?_); refine box_event ?hg (N := 1) ?hd (cs := #[.int .i64 a0_0, .int .i64 a0_1, .int .i64 a0_2, .int .i64 a0_3]) (t := 32) ?hr ?_; (case hd => rfl); (case hg => rfl); (case hr => first | (go_simp; done) | (go_simp; rfl)); intro gb170 hg w3 hbox hb; have n0_ := qam (qw6 (by repeat (first | (with_reducible first | exact HB.out | apply qw1 | apply qw2 | apply qw3) | exact HB.out)) hb); have n1_ := qam (hbox); have n2_ := qam ((by rw [hg]; exact (qw5 (by repeat (first | (with_reducible first | exact HB.out | apply qw1 | apply qw2 | apply qw3) | exact HB.out))) : w.heap.size ≤ gb170)); have n3_ := qam ((by rw [hg]; exact (qw5 (by repeat (first | (with_reducible first | exact HB.out | apply qw1 | apply qw2 | apply qw3) | exact HB.out))) : w.heap.size ≤ gb170)); clear HB; have HB := n0_; have BK170 := n1_; have GW170 := n2_; have GE170 := n3_; clear n0_ n1_ n2_ n3_; clear hb hbox hg; have hcz4_0 : w3.cell? ⟨gb170, 0, none⟩ = some (.int .i64 a0_0) := (qb1 BK170.out 0).trans rfl; have hcz4_1 : w3.cell? ⟨gb170, 1, none⟩ = some (.int .i64 a0_1) := (qb1 BK170.out 1).trans rfl; have hcz4_2 : w3.cell? ⟨gb170, 2, none⟩ = some (.int .i64 a0_2) := (qb1 BK170.out 2).trans rfl; have hcz4_3 : w3.cell? ⟨gb170, 3, none⟩ = some (.int .i64 a0_3) := (qb1 BK170.out 3).trans rfl; have hfz4_0 := qb2 BK170.out 0; have hfz4_1 := qb2 BK170.out 1; have hfz4_2 := qb2 BK170.out 2; have hfz4_3 := qb2 BK170.out 3))
  go_ret
  exact ⟨by first | rfl | (simp [errW_none, errW_some] <;> rfl) | (simp [*, errW_none, errW_some] <;> rfl), by repeat (first | (with_reducible first | exact HB.out | apply qw1 | apply qw2 | apply qw3 | refine qw4 ?_ GE170.out) | exact HB.out)⟩
 ·rw [if_neg c2] at H
  have c2b0 : (a0_2 == 3) = false := beq_eq_false_iff_ne.mpr c2
  have c2b1 : (a0_2 != 3) = true := bne_iff_ne.mpr c2
  obtain rfl := Option.some.inj H
  go_enter Try.func63, Try.ntmps63
  go_wp2_with (first | ((with_reducible refine gate_dst (N := 1) rfl ?_); refine box_event ?hg (N := 1) ?hd (cs := #[.int .i64 a0_0, .int .i64 a0_1, .int .i64 a0_2, .int .i64 a0_3]) (t := 32) ?hr ?_; (case hd => rfl); (case hg => rfl); (case hr => first | (go_simp; done) | (go_simp; rfl)); intro gb170 hg w5 hbox hb; have n0_ := qam (qw6 (by repeat (first | (with_reducible first | exact HB.out | apply qw1 | apply qw2 | apply qw3) | exact HB.out)) hb); have n1_ := qam (hbox); have n2_ := qam ((by rw [hg]; exact (qw5 (by repeat (first | (with_reducible first | exact HB.out | apply qw1 | apply qw2 | apply qw3) | exact HB.out))) : w.heap.size ≤ gb170)); have n3_ := qam ((by rw [hg]; exact (qw5 (by repeat (first | (with_reducible first | exact HB.out | apply qw1 | apply qw2 | apply qw3) | exact HB.out))) : w.heap.size ≤ gb170)); clear HB; have HB := n0_; have BK170 := n1_; have GW170 := n2_; have GE170 := n3_; clear n0_ n1_ n2_ n3_; clear hb hbox hg; have hcz6_0 : w5.cell? ⟨gb170, 0, none⟩ = some (.int .i64 a0_0) := (qb1 BK170.out 0).trans rfl; have hcz6_1 : w5.cell? ⟨gb170, 1, none⟩ = some (.int .i64 a0_1) := (qb1 BK170.out 1).trans rfl; have hcz6_2 : w5.cell? ⟨gb170, 2, none⟩ = some (.int .i64 a0_2) := (qb1 BK170.out 2).trans rfl; have hcz6_3 : w5.cell? ⟨gb170, 3, none⟩ = some (.int .i64 a0_3) := (qb1 BK170.out 3).trans rfl; have hfz6_0 := qb2 BK170.out 0; have hfz6_1 := qb2 BK170.out 1; have hfz6_2 := qb2 BK170.out 2; have hfz6_3 := qb2 BK170.out 3))
  go_ret
  exact ⟨by first | rfl | (simp [errW_none, errW_some] <;> rfl) | (simp [*, errW_none, errW_some] <;> rfl), by repeat (first | (with_reducible first | exact HB.out | apply qw1 | apply qw2 | apply qw3 | refine qw4 ?_ GE170.out) | exact HB.out)⟩

end Go.Proofs.Ytflpelbhalndcaa.QV
