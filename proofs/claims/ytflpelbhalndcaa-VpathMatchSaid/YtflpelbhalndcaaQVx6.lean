-- By a program of this session, out of the translation's own print.
import Derived.Test.YtflpelbhalndcaaQVg
import Derived.Test.YtflpelbhalndcaaQVx0
import Derived.Test.YtflpelbhalndcaaQVx3
import Derived.Test.YtflpelbhalndcaaQVx4
namespace Go.Proofs.Ytflpelbhalndcaa.QV
open Go.RowKit Go.Proofs.YtflpelbhalndcaaW.PrintWords Go.Proofs.YtflpelbhalndcaaW.PrintLast Go.Proofs.YtflpelbhalndcaaW.PrintMore
attribute [local go_sem] max2_int min2_int max_two min_two max_three min_three max_four min_four   -- for this text's walks alone
set_option linter.unusedVariables false
set_option linter.unusedSimpArgs false

/-! ### super_unsorted: function 111 -/
mutual
def super_unsorted.l0 : Nat → List (S32) → Int → Int → List (S35) → List (S32) → Int → List (S35) → List (S32) → Int → Option (Int)
 | 0, _, _, _, _, _, _, _, _, _ => none
 | k + 1, x17, x18, x19, x148000, x148001, x148002, x152000, x152001, x152002 => if x19 < x18 then (if 0 ≤ x19 then (if x19 < (x17.length : Int) then (if 0 ≤ (wrap64 (x19 + 1)) then (if (wrap64 (x19 + 1)) ≤ (x148001.length : Int) then ((super_checkEdge.f k x148000 (x148001.take ((wrap64 (x19 + 1)) : Int).toNat) 0 x19).bind fun t159 => (if t159 = 20 then (if ((rd_T32 x17 x19).f2) = 2 then (super_unsorted.j1 k t159 x17 x18 x19 false x148000 x148001 x148002 x152000 x152001 x152002) else ((super_fits.f k x152000 x152001 x152002 ((rd_T32 x17 x19).f0) ((rd_T32 x17 x19).f1) ((rd_T32 x17 x19).f2) ((rd_T32 x17 x19).f3)).bind fun t160 => (super_unsorted.j1 k t159 x17 x18 x19 t160 x148000 x148001 x148002 x152000 x152001 x152002))) else (super_unsorted.j1 k t159 x17 x18 x19 false x148000 x148001 x148002 x152000 x152001 x152002))) else (none)) else (none)) else (none)) else (none)) else (some 0)
def super_unsorted.j1 : Nat → Int → List (S32) → Int → Int → Bool → List (S35) → List (S32) → Int → List (S35) → List (S32) → Int → Option (Int)
 | 0, _, _, _, _, _, _, _, _, _, _, _ => none
 | k + 1, x6, x17, x18, x19, x45, x148000, x148001, x148002, x152000, x152001, x152002 => if x45 = true then (super_unsorted.j2 k 0 x17 x18 x19 x148000 x148001 x148002 x152000 x152001 x152002) else (super_unsorted.j2 k x6 x17 x18 x19 x148000 x148001 x148002 x152000 x152001 x152002)
def super_unsorted.j2 : Nat → Int → List (S32) → Int → Int → List (S35) → List (S32) → Int → List (S35) → List (S32) → Int → Option (Int)
 | 0, _, _, _, _, _, _, _, _, _, _ => none
 | k + 1, x6, x17, x18, x19, x148000, x148001, x148002, x152000, x152001, x152002 => if x6 = 0 then (super_unsorted.l0 k x17 x18 (wrap64 (x19 + 1)) x148000 x148001 x148002 x152000 x152001 x152002) else (some x6)
end
def super_unsorted.f (k : Nat) (l0_0 : List (S35)) (l0_1 : List (S32)) (a0_2 : Int) : Option (Int) := (api_SEdge_99.f l0_1).bind fun t148 => ((api_SEdge_148.f t148).bind fun t152 => (super_unsorted.l0 k l0_1 (l0_1.length : Int) 0 l0_0 l0_1 a0_2 l0_0 t152 0))
theorem super_unsorted.mono_l : ∀ k, (∀ y0 y1 y2 y3 y4 y5 y6 y7 y8, LeO (super_unsorted.l0 k y0 y1 y2 y3 y4 y5 y6 y7 y8) (super_unsorted.l0 (k + 1) y0 y1 y2 y3 y4 y5 y6 y7 y8)) ∧ (∀ y0 y1 y2 y3 y4 y5 y6 y7 y8 y9 y10, LeO (super_unsorted.j1 k y0 y1 y2 y3 y4 y5 y6 y7 y8 y9 y10) (super_unsorted.j1 (k + 1) y0 y1 y2 y3 y4 y5 y6 y7 y8 y9 y10)) ∧ (∀ y0 y1 y2 y3 y4 y5 y6 y7 y8 y9, LeO (super_unsorted.j2 k y0 y1 y2 y3 y4 y5 y6 y7 y8 y9) (super_unsorted.j2 (k + 1) y0 y1 y2 y3 y4 y5 y6 y7 y8 y9))
 | 0 => ⟨fun _ _ _ _ _ _ _ _ _ r h => by simp [super_unsorted.l0] at h, fun _ _ _ _ _ _ _ _ _ _ _ r h => by simp [super_unsorted.j1] at h, fun _ _ _ _ _ _ _ _ _ _ r h => by simp [super_unsorted.j2] at h⟩
 | k + 1 => by
  obtain ⟨ih0, ih1, ih2⟩ := super_unsorted.mono_l k
  refine ⟨?_, ?_, ?_⟩
  ·intro y0 y1 y2 y3 y4 y5 y6 y7 y8
   unfold super_unsorted.l0
   repeat' first
   | (with_reducible exact ih0 _ _ _ _ _ _ _ _ _)
   | (with_reducible exact ih1 _ _ _ _ _ _ _ _ _ _ _)
   | (with_reducible exact ih2 _ _ _ _ _ _ _ _ _ _)
   | (with_reducible exact super_checkEdge.mono _ _ _ _ _)
   | (with_reducible exact super_fits.mono _ _ _ _ _ _ _ _)
   | (with_reducible exact LeO.refl _)
   | (with_reducible exact LeO.none _)
   | (with_reducible refine LeO.ite ?_ ?_)
   | (with_reducible refine LeO.bind ?_ (fun _ => ?_))
   | exact ih0 _ _ _ _ _ _ _ _ _
   | exact ih1 _ _ _ _ _ _ _ _ _ _ _
   | exact ih2 _ _ _ _ _ _ _ _ _ _
   | exact super_checkEdge.mono _ _ _ _ _
   | exact super_fits.mono _ _ _ _ _ _ _ _
   | exact LeO.none _
   | refine LeO.ite ?_ ?_
   | refine LeO.bind ?_ (fun _ => ?_)
  ·intro y0 y1 y2 y3 y4 y5 y6 y7 y8 y9 y10
   unfold super_unsorted.j1
   repeat' first
   | (with_reducible exact ih0 _ _ _ _ _ _ _ _ _)
   | (with_reducible exact ih1 _ _ _ _ _ _ _ _ _ _ _)
   | (with_reducible exact ih2 _ _ _ _ _ _ _ _ _ _)
   | (with_reducible exact super_checkEdge.mono _ _ _ _ _)
   | (with_reducible exact super_fits.mono _ _ _ _ _ _ _ _)
   | (with_reducible exact LeO.refl _)
   | (with_reducible exact LeO.none _)
   | (with_reducible refine LeO.ite ?_ ?_)
   | (with_reducible refine LeO.bind ?_ (fun _ => ?_))
   | exact ih0 _ _ _ _ _ _ _ _ _
   | exact ih1 _ _ _ _ _ _ _ _ _ _ _
   | exact ih2 _ _ _ _ _ _ _ _ _ _
   | exact super_checkEdge.mono _ _ _ _ _
   | exact super_fits.mono _ _ _ _ _ _ _ _
   | exact LeO.none _
   | refine LeO.ite ?_ ?_
   | refine LeO.bind ?_ (fun _ => ?_)
  ·intro y0 y1 y2 y3 y4 y5 y6 y7 y8 y9
   unfold super_unsorted.j2
   repeat' first
   | (with_reducible exact ih0 _ _ _ _ _ _ _ _ _)
   | (with_reducible exact ih1 _ _ _ _ _ _ _ _ _ _ _)
   | (with_reducible exact ih2 _ _ _ _ _ _ _ _ _ _)
   | (with_reducible exact super_checkEdge.mono _ _ _ _ _)
   | (with_reducible exact super_fits.mono _ _ _ _ _ _ _ _)
   | (with_reducible exact LeO.refl _)
   | (with_reducible exact LeO.none _)
   | (with_reducible refine LeO.ite ?_ ?_)
   | (with_reducible refine LeO.bind ?_ (fun _ => ?_))
   | exact ih0 _ _ _ _ _ _ _ _ _
   | exact ih1 _ _ _ _ _ _ _ _ _ _ _
   | exact ih2 _ _ _ _ _ _ _ _ _ _
   | exact super_checkEdge.mono _ _ _ _ _
   | exact super_fits.mono _ _ _ _ _ _ _ _
   | exact LeO.none _
   | refine LeO.ite ?_ ?_
   | refine LeO.bind ?_ (fun _ => ?_)
theorem super_unsorted.mono : ∀ a0 a1 a2 k, LeO (super_unsorted.f k a0 a1 a2) (super_unsorted.f (k + 1) a0 a1 a2) := by
 intro a0 a1 a2 k
 obtain ⟨ih0, ih1, ih2⟩ := super_unsorted.mono_l k
 unfold super_unsorted.f
 repeat' first
   | (with_reducible exact ih0 _ _ _ _ _ _ _ _ _)
   | (with_reducible exact ih1 _ _ _ _ _ _ _ _ _ _ _)
   | (with_reducible exact ih2 _ _ _ _ _ _ _ _ _ _)
   | (with_reducible exact super_checkEdge.mono _ _ _ _ _)
   | (with_reducible exact super_fits.mono _ _ _ _ _ _ _ _)
   | (with_reducible exact LeO.refl _)
   | (with_reducible exact LeO.none _)
   | (with_reducible refine LeO.ite ?_ ?_)
   | (with_reducible refine LeO.bind ?_ (fun _ => ?_))
   | exact ih0 _ _ _ _ _ _ _ _ _
   | exact ih1 _ _ _ _ _ _ _ _ _ _ _
   | exact ih2 _ _ _ _ _ _ _ _ _ _
   | exact super_checkEdge.mono _ _ _ _ _
   | exact super_fits.mono _ _ _ _ _ _ _ _
   | exact LeO.none _
   | refine LeO.ite ?_ ?_
   | refine LeO.bind ?_ (fun _ => ?_)
def super_unsorted.T1 : Bool × List (List Nat × List Nat) := (true, [([], []), ([0], [0]), ([], []), ([2], [2]), ([3], [3]), ([1, 4], [1, 4]), ([], []), ([6, 5, 4, 0, 1, 2, 3, 4, 5, 6], [5, 6])])
def super_unsorted.B1 : List Nat := [0, 1, 0, 4, 12, 31, 0, 127]
theorem super_unsorted.tab1 : rtab .any (opsOf Try.f111 1) = super_unsorted.T1 := by kernel_rfl
theorem super_unsorted.bits1 : waitsOk super_unsorted.T1.2 super_unsorted.B1 = true := by kernel_rfl
def super_unsorted.T6 : Bool × List (List Nat × List Nat) := (true, [([], []), ([0], [0]), ([], []), ([2], [2]), ([], []), ([4], [4]), ([3, 5], [3, 5]), ([1, 6], [1, 6]), ([], []), ([7, 8], [7, 8]), ([9, 9, 0, 1, 2, 3, 4, 5, 6, 7, 8, 9], [9])])
def super_unsorted.B6 : List Nat := [0, 1, 0, 4, 0, 16, 60, 127, 0, 511, 1023]
theorem super_unsorted.tab6 : rtab .any (opsOf Try.f111 6) = super_unsorted.T6 := by kernel_rfl
theorem super_unsorted.bits6 : waitsOk super_unsorted.T6.2 super_unsorted.B6 = true := by kernel_rfl
set_option maxHeartbeats 8000000 in
set_option maxRecDepth 100000 in
theorem super_unsorted.calls (k : Nat) (A0_0 : Option Addr) (c0_0 : Nat) (l0_0 : List (S35)) (A0_1 : Option Addr) (c0_1 : Nat) (l0_1 : List (S32)) (a0_2 : Int) (r : Int) (w : World) (hr0_0 : Kd.C k35 w A0_0 l0_0.length l0_0) (hc0_0 : l0_0.length ≤ c0_0) (hr0_1 : Kd.C k32 w A0_1 l0_1.length l0_1) (hc0_1 : l0_1.length ≤ c0_1) (h : super_unsorted.f k l0_0 l0_1 a0_2 = some r) :
  Calls Try.prog 111 #[.agg #[.slice A0_0 l0_0.length c0_0, .slice A0_1 l0_1.length c0_1, .int .i64 a0_2]] w fun e w' => e = .returned (.int .i64 r) ∧ Below w.heap.size w w' := by
 have hu25 := Try.underlying25
 have hu32 := Try.underlying32
 have HR0_0 := qam hr0_0
 have HC0_0 := qam hc0_0
 clear hr0_0 hc0_0
 have HR0_1 := qam hr0_1
 have HC0_1 := qam hc0_1
 clear hr0_1 hc0_1
 have HB := qam (Below.refl w.heap.size w)
 have H : ((api_SEdge_99.f l0_1).bind fun t148 => ((api_SEdge_148.f t148).bind fun t152 => (super_unsorted.l0 k l0_1 (l0_1.length : Int) 0 l0_0 l0_1 a0_2 l0_0 t152 0))) = some r := h
 clear h
 replace H := Option.bind_eq_some_iff.mp H
 obtain ⟨t148, A20, H⟩ := H
 replace H : ((api_SEdge_148.f t148).bind fun t152 => (super_unsorted.l0 k l0_1 (l0_1.length : Int) 0 l0_0 l0_1 a0_2 l0_0 t152 0)) = some r := H
 have A2 := qam A20
 clear A20
 replace H := Option.bind_eq_some_iff.mp H
 obtain ⟨t152, A30, H⟩ := H
 replace H : (super_unsorted.l0 k l0_1 (l0_1.length : Int) 0 l0_0 l0_1 a0_2 l0_0 t152 0) = some r := H
 have A3 := qam A30
 clear A30
 have H' := qam H
 clear H
 go_enter Try.func111, Try.ntmps111
 try go_wp2_with (first | ((with_reducible refine gate_dst (N := 1) rfl ?_); refine box_event ?hg (N := 1) ?hd (cs := #[.slice A0_0 l0_0.length c0_0, .slice A0_1 l0_1.length c0_1, .int .i64 a0_2]) (t := 25) ?hr ?_; (case hd => rfl); (case hg => rfl); (case hr => first | (go_simp; done) | (go_simp; rfl)); intro gb147 hg w4 hbox hb; have n0_ := qam (qw6 (by repeat (first | (with_reducible first | exact HB.out | apply qw1 | apply qw2 | apply qw3) | exact HB.out)) hb); have n1_ := qam (hbox); have n2_ := qam ((by rw [hg]; exact (qw5 (by repeat (first | (with_reducible first | exact HB.out | apply qw1 | apply qw2 | apply qw3) | exact HB.out))) : w.heap.size ≤ gb147)); have n3_ := qam ((by rw [hg]; exact (qw5 (by repeat (first | (with_reducible first | exact HB.out | apply qw1 | apply qw2 | apply qw3) | exact HB.out))) : w.heap.size ≤ gb147)); clear HB; have HB := n0_; have BK147 := n1_; have GW147 := n2_; have GE147 := n3_; clear n0_ n1_ n2_ n3_; clear hb hbox hg))
 have n0_ := qam (qb5 BK147.out)
 have n1_ := qam (qw3 HB.out)
 clear BK147
 clear HB
 have BK147 := n0_
 have HB := n1_
 clear n0_ n1_
 refine start_ (n := 8) (S := fun w' => w'.cell? ⟨gb147, 0, none⟩ = some (.slice A0_0 l0_0.length c0_0) ∧ w'.cell? ⟨gb147, 1, none⟩ = some (.slice A0_1 l0_1.length c0_1) ∧ w'.cell? ⟨gb147, 2, none⟩ = some (.int .i64 a0_2)) (ds := []) #[false, false, false, false, false, false, false, false] (by kernel_rfl) rfl rfl ⟨(qb1 BK147.out 0).trans rfl, (qb1 BK147.out 1).trans rfl, (qb1 BK147.out 2).trans rfl⟩ (fun hHeld => ?_); refine with_tabW super_unsorted.tab1 super_unsorted.bits1 (fun HT_ HW_ => ?_)
 generalize w4.drew = w5 at BK147 HB hHeld ⊢
 refine pure_ (i := 0) (N := some 7) (v := ?_) (a' := ?_) #[true, false, false, false, false, false, false, false] rfl rfl (any_of HT_.out (by kernel_rfl)) (fun _ _ _ h => h) (Or.inl ⟨by rfl, ?_⟩) ?_ ?_
 rotate_left
 ·intro w'
  go_simp
  with_reducible rfl
 rotate_left
 ·simp only [Act.put, qs1, qs2, qs3, i64_w, i32_w]
  rfl
 refine pure_ (i := 2) (N := some 9) (v := ?_) (a' := ?_) #[true, false, true, false, false, false, false, false] rfl rfl (any_of HT_.out (by kernel_rfl)) (fun _ _ _ h => h) (Or.inl ⟨by rfl, ?_⟩) ?_ ?_
 rotate_left
 ·intro w'
  go_simp
  with_reducible rfl
 rotate_left
 ·simp only [Act.put, qs1, qs2, qs3, i64_w, i32_w]
  rfl
 refine take_ (i := 1) (N := some 8) (v := ?_) (a' := ?_) #[true, true, true, false, false, false, false, false] rfl rfl (take_ofW HT_.out HW_.out (by kernel_rfl)) (fun _ _ _ h => h) (Or.inl ⟨by rfl, ?_⟩) hHeld ?_ ?_
 rotate_left
 ·rintro w' ⟨s0, s1, s2⟩
  go_simp
  with_reducible rfl
 rotate_left
 ·simp only [Act.put, qs1, qs2, qs3, i64_w, i32_w]
  rfl
 refine take_ (i := 3) (N := some 10) (v := ?_) (a' := ?_) #[true, true, true, true, false, false, false, false] rfl rfl (take_ofW HT_.out HW_.out (by kernel_rfl)) (fun _ _ _ h => h) (Or.inl ⟨by rfl, ?_⟩) hHeld ?_ ?_
 rotate_left
 ·rintro w' ⟨s0, s1, s2⟩
  go_simp
  with_reducible rfl
 rotate_left
 ·simp only [Act.put, qs1, qs2, qs3, i64_w, i32_w]
  rfl
 refine join_ (σ := Value × Nat) 1 #[true, true, true, true, true, true, true, false] (fun s_ => [(11, s_.1), (3, .pointer (some ⟨s_.2, 0, none⟩)), (12, .agg #[.slice A0_0 l0_0.length c0_0, s_.1, .int .i64 0])]) (fun s_ w' => (w'.cell? ⟨gb147, 0, none⟩ = some (.slice A0_0 l0_0.length c0_0) ∧ w'.cell? ⟨gb147, 1, none⟩ = some (.slice A0_1 l0_1.length c0_1) ∧ w'.cell? ⟨gb147, 2, none⟩ = some (.int .i64 a0_2)) ∧ (Kd.R k32 32 w' w.heap.size (fun _ => True) s_.1 t148) ∧ (w'.heap[gb147]? = some (.cells #[.slice A0_0 l0_0.length c0_0, .slice A0_1 l0_1.length c0_1, .int .i64 a0_2] 25 (0, 0))) ∧ (w'.heap[s_.2]? = some (.cells #[.slice none 0 0, .slice none 0 0, .int .i64 0] 25 (0, 0))) ∧ (w.heap.size ≤ s_.2) ∧ (w.heap.size ≤ s_.2) ∧ (gb147 ≠ s_.2) ∧ (s_.2 ≠ gb147) ∧ (Below w.heap.size w w')) ?_ ?_
 rotate_left
 ·intro hCont
  refine two_ (i := 4) (j := 6) (Ni := some 11) (Nj := some 3) #[true, true, true, true, true, false, false, false] #[true, true, true, true, false, false, true, false] rfl rfl rfl rfl (two_of HT_.out (by kernel_rfl)) (by decide) (by decide) (fun K hK => ?_) (fun K hK => ?_)
  ·skip
   refine goes_ Try.func99 (by kernel_rfl) rfl #[.slice A0_1 l0_1.length c0_1] (by rfl) rfl rfl (by (try simp only [List.map_toArray, List.map_cons, List.map_nil]); first | done | rfl | (simp only [List.length_drop, List.length_take]; rfl)) ?_
   with_reducible refine (api_SEdge_99.calls _ _ l0_1 t148 _ ?side1 ?side2 A2.out).mono ?_
   (case side1 => repeat (first | exact (qk4 HR0_1.out HB.out) | (with_reducible refine Kd.C_alloc ?_ _) | (with_reducible refine Kd.C_drewN ?_ _) | (with_reducible refine Kd.C_drew ?_)))
   (case side2 => exact HC0_1.out)
   rintro e w6 ⟨v149, rfl, ho0, hb⟩
   refine ⟨_, rfl, ?_⟩
   have n0_ := qam (Kd.R_lower ho0 (qw5 (by repeat (first | (with_reducible first | exact HB.out | apply qw1 | apply qw2 | apply qw3 | refine qw4 ?_ GE147.out) | exact HB.out))))
   have n1_ := qam (blk_below (g := gb147) (o := .cells #[.slice A0_0 l0_0.length c0_0, .slice A0_1 l0_1.length c0_1, .int .i64 a0_2] 25 (0, 0)) (by (with_reducible repeat (first | refine qb3 ?_ _ | refine qb5 ?_ | refine qb4 ?_ _)); exact BK147.out) hb)
   have n2_ := qam (qw6 (by repeat (first | (with_reducible first | exact HB.out | apply qw1 | apply qw2 | apply qw3 | refine qw4 ?_ GE147.out) | exact HB.out)) hb)
   clear BK147
   clear HB
   have HO150 := n0_
   have BK147 := n1_
   have HB := n2_
   clear n0_ n1_ n2_
   (try clear hb)
   (try clear hb2)
   (try clear hk)
   (try clear hi)
   (try clear ho0)
   obtain ⟨Ao7, co7, eo7⟩ := Kd.R_slice HO150.out
   (first | subst eo7 | (injection eo7 with f1_ f2_ f3_; have f4_ := f1_.symm; have f5_ := f3_.symm; clear f1_ f2_ f3_; subst f4_; subst f5_))
   refine hK.out _ _ ⟨(qb1 BK147.out 0).trans rfl, (qb1 BK147.out 1).trans rfl, (qb1 BK147.out 2).trans rfl⟩ (fun hHeld => ?_)
   clear hK K
   refine norm_ (a' := ?_) ?_ ?_
   rotate_left
   ·show Act.put _ (some 11) _ = _
    simp only [Act.put, qs1, qs2, qs3, i64_w, i32_w]
    rfl
   refine pure_ (i := 5) (N := some 12) (v := ?_) (a' := ?_) #[true, true, true, true, true, true, false, false] rfl rfl (any_of HT_.out (by kernel_rfl)) (fun _ _ _ h => h) (Or.inl ⟨by rfl, ?_⟩) ?_ ?_
   rotate_left
   ·intro w'
    go_simp
    with_reducible rfl
   rotate_left
   ·simp only [Act.put, qs1, qs2, qs3, i64_w, i32_w]
    rfl
   refine one_ (i := 6) (N := some 3) #[true, true, true, true, true, true, true, false] rfl rfl (one_of HT_.out (by kernel_rfl)) (by decide) (fun K hK => ?_)
   refine box_step ?hg (N := 3) ?hd (cs := #[.slice none 0 0, .slice none 0 0, .int .i64 0]) (t := 25) ?hr ?_; (case hd => rfl); (case hg => rfl); (case hr => first | (go_simp; done) | (go_simp; rfl))
   intro gb151 hg w8 hbox hb
   have n0_ := qam (Kd.R_below (by (with_reducible repeat (first | apply qk1 | apply qk2 | apply qk3)); exact HO150.out) hb)
   have n1_ := qam (blk_below (g := gb147) (o := .cells #[.slice A0_0 l0_0.length c0_0, .slice A0_1 l0_1.length c0_1, .int .i64 a0_2] 25 (0, 0)) (by (with_reducible repeat (first | refine qb3 ?_ _ | refine qb5 ?_ | refine qb4 ?_ _)); exact BK147.out) hb)
   have n2_ := qam (qw6 (by repeat (first | (with_reducible first | exact HB.out | apply qw1 | apply qw2 | apply qw3 | refine qw4 ?_ GE147.out) | exact HB.out)) hb)
   have n3_ := qam (hbox)
   have n4_ := qam ((by rw [hg]; exact (qw5 (by repeat (first | (with_reducible first | exact HB.out | apply qw1 | apply qw2 | apply qw3 | refine qw4 ?_ GE147.out) | exact HB.out))) : w.heap.size ≤ gb151))
   have n5_ := qam ((by rw [hg]; exact (qw5 (by repeat (first | (with_reducible first | exact HB.out | apply qw1 | apply qw2 | apply qw3 | refine qw4 ?_ GE147.out) | exact HB.out))) : w.heap.size ≤ gb151))
   have n6_ := qam ((by rw [hg]; exact qnn (blk_lt (g := gb147) (o := .cells #[.slice A0_0 l0_0.length c0_0, .slice A0_1 l0_1.length c0_1, .int .i64 a0_2] 25 (0, 0)) (by (with_reducible repeat (first | refine qb3 ?_ _ | refine qb5 ?_ | refine qb4 ?_ _)); exact BK147.out)) : gb147 ≠ gb151))
   have n7_ := qam ((by rw [hg]; exact Nat.ne_of_gt (blk_lt (g := gb147) (o := .cells #[.slice A0_0 l0_0.length c0_0, .slice A0_1 l0_1.length c0_1, .int .i64 a0_2] 25 (0, 0)) (by (with_reducible repeat (first | refine qb3 ?_ _ | refine qb5 ?_ | refine qb4 ?_ _)); exact BK147.out)) : gb151 ≠ gb147))
   clear HO150
   clear BK147
   clear HB
   have HO150 := n0_
   have BK147 := n1_
   have HB := n2_
   have BK151 := n3_
   have GW151 := n4_
   have GE151 := n5_
   have NB147_151 := n6_
   have NB151_147 := n7_
   clear n0_ n1_ n2_ n3_ n4_ n5_ n6_ n7_
   clear hb hbox hg
   refine hK.out _ _ ⟨(qb1 BK147.out 0).trans rfl, (qb1 BK147.out 1).trans rfl, (qb1 BK147.out 2).trans rfl⟩ (fun hHeld => ?_)
   clear hK K
   refine norm_ (a' := ?_) ?_ ?_
   rotate_left
   ·show Act.put _ (some 3) _ = _
    simp only [Act.put, qs1, qs2, qs3, i64_w, i32_w]
    rfl
   exact norm_ (by simp only [putAll, Act.put, qs1, qs2, qs3]) (hCont (.slice Ao7 t148.length co7, gb151) _ ⟨hHeld, (by (with_reducible repeat (first | apply qk1 | apply qk2 | apply qk3)); exact HO150.out), (by (with_reducible repeat (first | refine qb3 ?_ _ | refine qb5 ?_ | refine qb4 ?_ _)); exact BK147.out), (by (with_reducible repeat (first | refine qb3 ?_ _ | refine qb5 ?_ | refine qb4 ?_ _)); exact BK151.out), GW151.out, GE151.out, NB147_151.out, NB151_147.out, (by repeat (first | (with_reducible first | exact HB.out | apply qw1 | apply qw2 | apply qw3 | refine qw4 ?_ GE147.out | refine qw4 ?_ GE151.out) | exact HB.out))⟩)
  ·skip
   refine box_step ?hg (N := 3) ?hd (cs := #[.slice none 0 0, .slice none 0 0, .int .i64 0]) (t := 25) ?hr ?_; (case hd => rfl); (case hg => rfl); (case hr => first | (go_simp; done) | (go_simp; rfl))
   intro gb151 hg w6 hbox hb
   have n0_ := qam (blk_below (g := gb147) (o := .cells #[.slice A0_0 l0_0.length c0_0, .slice A0_1 l0_1.length c0_1, .int .i64 a0_2] 25 (0, 0)) (by (with_reducible repeat (first | refine qb3 ?_ _ | refine qb5 ?_ | refine qb4 ?_ _)); exact BK147.out) hb)
   have n1_ := qam (qw6 (by repeat (first | (with_reducible first | exact HB.out | apply qw1 | apply qw2 | apply qw3 | refine qw4 ?_ GE147.out) | exact HB.out)) hb)
   have n2_ := qam (hbox)
   have n3_ := qam ((by rw [hg]; exact (qw5 (by repeat (first | (with_reducible first | exact HB.out | apply qw1 | apply qw2 | apply qw3 | refine qw4 ?_ GE147.out) | exact HB.out))) : w.heap.size ≤ gb151))
   have n4_ := qam ((by rw [hg]; exact (qw5 (by repeat (first | (with_reducible first | exact HB.out | apply qw1 | apply qw2 | apply qw3 | refine qw4 ?_ GE147.out) | exact HB.out))) : w.heap.size ≤ gb151))
   have n5_ := qam ((by rw [hg]; exact qnn (blk_lt (g := gb147) (o := .cells #[.slice A0_0 l0_0.length c0_0, .slice A0_1 l0_1.length c0_1, .int .i64 a0_2] 25 (0, 0)) (by (with_reducible repeat (first | refine qb3 ?_ _ | refine qb5 ?_ | refine qb4 ?_ _)); exact BK147.out)) : gb147 ≠ gb151))
   have n6_ := qam ((by rw [hg]; exact Nat.ne_of_gt (blk_lt (g := gb147) (o := .cells #[.slice A0_0 l0_0.length c0_0, .slice A0_1 l0_1.length c0_1, .int .i64 a0_2] 25 (0, 0)) (by (with_reducible repeat (first | refine qb3 ?_ _ | refine qb5 ?_ | refine qb4 ?_ _)); exact BK147.out)) : gb151 ≠ gb147))
   clear BK147
   clear HB
   have BK147 := n0_
   have HB := n1_
   have BK151 := n2_
   have GW151 := n3_
   have GE151 := n4_
   have NB147_151 := n5_
   have NB151_147 := n6_
   clear n0_ n1_ n2_ n3_ n4_ n5_ n6_
   clear hb hbox hg
   refine hK.out _ _ ⟨(qb1 BK147.out 0).trans rfl, (qb1 BK147.out 1).trans rfl, (qb1 BK147.out 2).trans rfl⟩ (fun hHeld => ?_)
   clear hK K
   refine norm_ (a' := ?_) ?_ ?_
   rotate_left
   ·show Act.put _ (some 3) _ = _
    simp only [Act.put, qs1, qs2, qs3, i64_w, i32_w]
    rfl
   refine one_ (i := 4) (N := some 11) #[true, true, true, true, true, false, true, false] rfl rfl (one_of HT_.out (by kernel_rfl)) (by decide) (fun K hK => ?_)
   refine goes_ Try.func99 (by kernel_rfl) rfl #[.slice A0_1 l0_1.length c0_1] (by rfl) rfl rfl (by (try simp only [List.map_toArray, List.map_cons, List.map_nil]); first | done | rfl | (simp only [List.length_drop, List.length_take]; rfl)) ?_
   with_reducible refine (api_SEdge_99.calls _ _ l0_1 t148 _ ?side1 ?side2 A2.out).mono ?_
   (case side1 => repeat (first | exact (qk4 HR0_1.out HB.out) | (with_reducible refine Kd.C_alloc ?_ _) | (with_reducible refine Kd.C_drewN ?_ _) | (with_reducible refine Kd.C_drew ?_)))
   (case side2 => exact HC0_1.out)
   rintro e w7 ⟨v149, rfl, ho0, hb⟩
   refine ⟨_, rfl, ?_⟩
   have n0_ := qam (Kd.R_lower ho0 (qw5 (by repeat (first | (with_reducible first | exact HB.out | apply qw1 | apply qw2 | apply qw3 | refine qw4 ?_ GE147.out | refine qw4 ?_ GE151.out) | exact HB.out))))
   have n1_ := qam (blk_below (g := gb147) (o := .cells #[.slice A0_0 l0_0.length c0_0, .slice A0_1 l0_1.length c0_1, .int .i64 a0_2] 25 (0, 0)) (by (with_reducible repeat (first | refine qb3 ?_ _ | refine qb5 ?_ | refine qb4 ?_ _)); exact BK147.out) hb)
   have n2_ := qam (blk_below (g := gb151) (o := .cells #[.slice none 0 0, .slice none 0 0, .int .i64 0] 25 (0, 0)) (by (with_reducible repeat (first | refine qb3 ?_ _ | refine qb5 ?_ | refine qb4 ?_ _)); exact BK151.out) hb)
   have n3_ := qam (qw6 (by repeat (first | (with_reducible first | exact HB.out | apply qw1 | apply qw2 | apply qw3 | refine qw4 ?_ GE147.out | refine qw4 ?_ GE151.out) | exact HB.out)) hb)
   clear BK147
   clear BK151
   clear HB
   have HO150 := n0_
   have BK147 := n1_
   have BK151 := n2_
   have HB := n3_
   clear n0_ n1_ n2_ n3_
   (try clear hb)
   (try clear hb2)
   (try clear hk)
   (try clear hi)
   (try clear ho0)
   obtain ⟨Ao8, co8, eo8⟩ := Kd.R_slice HO150.out
   (first | subst eo8 | (injection eo8 with f1_ f2_ f3_; have f4_ := f1_.symm; have f5_ := f3_.symm; clear f1_ f2_ f3_; subst f4_; subst f5_))
   refine hK.out _ _ ⟨(qb1 BK147.out 0).trans rfl, (qb1 BK147.out 1).trans rfl, (qb1 BK147.out 2).trans rfl⟩ (fun hHeld => ?_)
   clear hK K
   refine norm_ (a' := ?_) ?_ ?_
   rotate_left
   ·show Act.put _ (some 11) _ = _
    simp only [Act.put, qs1, qs2, qs3, i64_w, i32_w]
    rfl
   refine pure_ (i := 5) (N := some 12) (v := ?_) (a' := ?_) #[true, true, true, true, true, true, true, false] rfl rfl (any_of HT_.out (by kernel_rfl)) (fun _ _ _ h => h) (Or.inl ⟨by rfl, ?_⟩) ?_ ?_
   rotate_left
   ·intro w'
    go_simp
    with_reducible rfl
   rotate_left
   ·simp only [Act.put, qs1, qs2, qs3, i64_w, i32_w]
    rfl
   exact norm_ (by simp only [putAll, Act.put, qs1, qs2, qs3]) (hCont (.slice Ao8 t148.length co8, gb151) _ ⟨hHeld, (by (with_reducible repeat (first | apply qk1 | apply qk2 | apply qk3)); exact HO150.out), (by (with_reducible repeat (first | refine qb3 ?_ _ | refine qb5 ?_ | refine qb4 ?_ _)); exact BK147.out), (by (with_reducible repeat (first | refine qb3 ?_ _ | refine qb5 ?_ | refine qb4 ?_ _)); exact BK151.out), GW151.out, GE151.out, NB147_151.out, NB151_147.out, (by repeat (first | (with_reducible first | exact HB.out | apply qw1 | apply qw2 | apply qw3 | refine qw4 ?_ GE147.out | refine qw4 ?_ GE151.out) | exact HB.out))⟩)
 rintro ⟨v149, gb151⟩ w9 ⟨hS_, h0_, h1_, h2_, h3_, h4_, h5_, h6_, h7_⟩
 have n0_ : Aside0 (Kd.R k32 32 w9 w.heap.size (fun _ => True) v149 t148) := ⟨h0_⟩
 have n1_ : Aside0 (w9.heap[gb147]? = some (.cells #[.slice A0_0 l0_0.length c0_0, .slice A0_1 l0_1.length c0_1, .int .i64 a0_2] 25 (0, 0))) := ⟨h1_⟩
 have n2_ : Aside0 (w9.heap[gb151]? = some (.cells #[.slice none 0 0, .slice none 0 0, .int .i64 0] 25 (0, 0))) := ⟨h2_⟩
 have n3_ : Aside0 (w.heap.size ≤ gb151) := ⟨h3_⟩
 have n4_ : Aside0 (w.heap.size ≤ gb151) := ⟨h4_⟩
 have n5_ : Aside0 (gb147 ≠ gb151) := ⟨h5_⟩
 have n6_ : Aside0 (gb151 ≠ gb147) := ⟨h6_⟩
 have n7_ : Aside0 (Below w.heap.size w w9) := ⟨h7_⟩
 clear BK147
 clear HB
 clear h0_ h1_ h2_ h3_ h4_ h5_ h6_ h7_
 have HO150 := n0_
 have BK147 := n1_
 have BK151 := n2_
 have GW151 := n3_
 have GE151 := n4_
 have NB147_151 := n5_
 have NB151_147 := n6_
 have HB := n7_
 clear n0_ n1_ n2_ n3_ n4_ n5_ n6_ n7_
 have hHeld : w9.cell? ⟨gb147, 0, none⟩ = some (.slice A0_0 l0_0.length c0_0) ∧ w9.cell? ⟨gb147, 1, none⟩ = some (.slice A0_1 l0_1.length c0_1) ∧ w9.cell? ⟨gb147, 2, none⟩ = some (.int .i64 a0_2) := hS_
 obtain ⟨Ao10, co10, eo10⟩ := Kd.R_slice HO150.out
 (first | subst eo10 | (injection eo10 with f1_ f2_ f3_; have f4_ := f1_.symm; have f5_ := f3_.symm; clear f1_ f2_ f3_; subst f4_; subst f5_))
 refine norm_ (a' := ?_) ?_ ?_
 rotate_left
 ·simp only [putAll, Act.put, qs1, qs2, qs3]
  rfl
 refine one_ (i := 7) (N := none) #[true, true, true, true, true, true, true, true] rfl rfl (one_of HT_.out (by kernel_rfl)) (by decide) (fun K hK => ?_)
 have hs11 : w9.cell? ⟨gb151, 0, none⟩ = some (.slice none 0 0) := (qb1 BK151.out 0).trans rfl
 have hfs11 := qb2 BK151.out 0
 have hns11_0 := NB147_151.out
 have hms11_0 := NB151_147.out
 have hs12 : w9.cell? ⟨gb151, 1, none⟩ = some (.slice none 0 0) := (qb1 BK151.out 1).trans rfl
 have hfs12 := qb2 BK151.out 1
 have hns12_0 := NB147_151.out
 have hms12_0 := NB151_147.out
 have hs13 : w9.cell? ⟨gb151, 2, none⟩ = some (.int .i64 0) := (qb1 BK151.out 2).trans rfl
 have hfs13 := qb2 BK151.out 2
 have hns13_0 := NB147_151.out
 have hms13_0 := NB151_147.out
 refine skip_ (w1 := ?_) (by rfl) rfl ?_ ?_
 rotate_left
 ·go_simp
  rfl
 refine hK.out _ _ ⟨((cell_far (p := ⟨gb151, _, none⟩) NB147_151.out _).trans (((cell_far (p := ⟨gb151, _, none⟩) NB147_151.out _).trans (((cell_far (p := ⟨gb151, _, none⟩) NB147_151.out _).trans (hHeld.1)))))), ((cell_far (p := ⟨gb151, _, none⟩) NB147_151.out _).trans (((cell_far (p := ⟨gb151, _, none⟩) NB147_151.out _).trans (((cell_far (p := ⟨gb151, _, none⟩) NB147_151.out _).trans (hHeld.2.1)))))), ((cell_far (p := ⟨gb151, _, none⟩) NB147_151.out _).trans (((cell_far (p := ⟨gb151, _, none⟩) NB147_151.out _).trans (((cell_far (p := ⟨gb151, _, none⟩) NB147_151.out _).trans (hHeld.2.2))))))⟩ (fun hHeld => ?_)
 clear hK K
 refine done_ (done_of HT_.out (by kernel_rfl)) ?_
 have n0_ : Aside0 (Kd.R k32 32 (((w9.setCell ⟨gb151, 0, none⟩ (.slice A0_0 l0_0.length c0_0)).setCell ⟨gb151, 1, none⟩ (.slice Ao10 t148.length co10)).setCell ⟨gb151, 2, none⟩ (.int .i64 0)) w.heap.size (fun _ => True) (.slice Ao10 t148.length co10) t148) := ⟨by (with_reducible repeat (first | apply qk1 | apply qk2 | apply qk3)); exact Kd.R_mono (Kd.R_far (p := ⟨gb151, 2, none⟩) (Kd.R_far (p := ⟨gb151, 1, none⟩) (Kd.R_far (p := ⟨gb151, 0, none⟩) (Kd.R_types HO150.out BK151.out (by decide)) (fun _ hk => hk.2) (.slice A0_0 l0_0.length c0_0)) (fun _ hk => hk.2) (.slice Ao10 t148.length co10)) (fun _ hk => hk.2) (.int .i64 0)) (fun _ hk => trivial)⟩
 have n1_ : Aside0 ((((w9.setCell ⟨gb151, 0, none⟩ (.slice A0_0 l0_0.length c0_0)).setCell ⟨gb151, 1, none⟩ (.slice Ao10 t148.length co10)).setCell ⟨gb151, 2, none⟩ (.int .i64 0)).heap[gb147]? = some (.cells #[.slice A0_0 l0_0.length c0_0, .slice A0_1 l0_1.length c0_1, .int .i64 a0_2] 25 (0, 0))) := ⟨by (with_reducible repeat (first | refine qb3 ?_ _ | refine qb5 ?_ | refine qb4 ?_ _)); refine blk_far ?_ NB147_151.out _; (with_reducible repeat (first | refine qb3 ?_ _ | refine qb5 ?_ | refine qb4 ?_ _)); refine blk_far ?_ NB147_151.out _; (with_reducible repeat (first | refine qb3 ?_ _ | refine qb5 ?_ | refine qb4 ?_ _)); refine blk_far ?_ NB147_151.out _; (with_reducible repeat (first | refine qb3 ?_ _ | refine qb5 ?_ | refine qb4 ?_ _)); exact BK147.out⟩
 have n2_ : Aside0 ((((w9.setCell ⟨gb151, 0, none⟩ (.slice A0_0 l0_0.length c0_0)).setCell ⟨gb151, 1, none⟩ (.slice Ao10 t148.length co10)).setCell ⟨gb151, 2, none⟩ (.int .i64 0)).heap[gb151]? = some (.cells #[.slice A0_0 l0_0.length c0_0, .slice Ao10 t148.length co10, .int .i64 0] 25 (0, 0))) := ⟨by (with_reducible repeat (first | refine qb3 ?_ _ | refine qb5 ?_ | refine qb4 ?_ _)); refine blk_put (cs := #[.slice A0_0 l0_0.length c0_0, .slice Ao10 t148.length co10, .int .i64 0]) ?_ 2 _ rfl; (with_reducible repeat (first | refine qb3 ?_ _ | refine qb5 ?_ | refine qb4 ?_ _)); refine blk_put (cs := #[.slice A0_0 l0_0.length c0_0, .slice none 0 0, .int .i64 0]) ?_ 1 _ rfl; (with_reducible repeat (first | refine qb3 ?_ _ | refine qb5 ?_ | refine qb4 ?_ _)); refine blk_put (cs := #[.slice none 0 0, .slice none 0 0, .int .i64 0]) ?_ 0 _ rfl; (with_reducible repeat (first | refine qb3 ?_ _ | refine qb5 ?_ | refine qb4 ?_ _)); exact BK151.out⟩
 have n3_ : Aside0 (Below w.heap.size w (((w9.setCell ⟨gb151, 0, none⟩ (.slice A0_0 l0_0.length c0_0)).setCell ⟨gb151, 1, none⟩ (.slice Ao10 t148.length co10)).setCell ⟨gb151, 2, none⟩ (.int .i64 0))) := ⟨by repeat (first | (with_reducible first | exact HB.out | apply qw1 | apply qw2 | apply qw3 | refine qw4 ?_ GE147.out | refine qw4 ?_ GE151.out) | exact HB.out)⟩
 (try clear HO150)
 (try clear BK147)
 (try clear BK151)
 (try clear HB)
 generalize (((w9.setCell ⟨gb151, 0, none⟩ (.slice A0_0 l0_0.length c0_0)).setCell ⟨gb151, 1, none⟩ (.slice Ao10 t148.length co10)).setCell ⟨gb151, 2, none⟩ (.int .i64 0)) = w14 at n0_ n1_ n2_ n3_ ⊢
 have HO150 := n0_
 have BK147 := n1_
 have BK151 := n2_
 have HB := n3_
 clear n0_ n1_ n2_ n3_
 have hnb15 := NB151_147.out
 have hnc15 := NB147_151.out
 have hcz16_0 : w14.cell? ⟨gb151, 0, none⟩ = some (.slice A0_0 l0_0.length c0_0) := (qb1 BK151.out 0).trans rfl
 have hcz16_1 : w14.cell? ⟨gb151, 1, none⟩ = some (.slice Ao10 t148.length co10) := (qb1 BK151.out 1).trans rfl
 have hcz16_2 : w14.cell? ⟨gb151, 2, none⟩ = some (.int .i64 0) := (qb1 BK151.out 2).trans rfl
 have hfz16_0 := qb2 BK151.out 0
 have hfz16_1 := qb2 BK151.out 1
 have hfz16_2 := qb2 BK151.out 2
 try go_wp2_with (first | ((with_reducible refine gate_callee (f := 148) rfl ?_); refine goesL_ (some 15) rfl rfl Try.func148 (by kernel_rfl) rfl #[.slice Ao10 t148.length co10, .func (.func 149) #[] #[]] rfl (by (try simp only [List.map_toArray, List.map_cons, List.map_nil]); first | done | rfl | (simp only [List.length_drop, List.length_take]; rfl)) ?_; (with_reducible refine (api_SEdge_148.calls (fun k_ => some k_ = (.slice Ao10 t148.length co10 : Value).ownBlock) (.slice Ao10 t148.length co10) t148 t152 w _ ?side1 ?side2 A3.out).mono ?_); (case side1 => repeat (first | (with_reducible first | exact HB.out | apply qw1 | apply qw2 | apply qw3 | refine qw4 ?_ GE147.out | refine qw4 ?_ GE151.out) | exact HB.out)); (case side2 => exact Kd.R_tight rfl HO150.out); rintro e w17 ⟨rfl, hy0, hb, hkp⟩; refine ⟨_, rfl, ?_⟩; have n0_ := qam (blk_kept (by (with_reducible repeat (first | refine qb3 ?_ _ | refine qb5 ?_ | refine qb4 ?_ _)); exact BK147.out) hkp (fun hs_ => (fun e_ => (Kd.R_ne HO150.out BK147.out (by decide)) e_) hs_)); have n1_ := qam (Kd.R_reok rfl hy0 (fun k_ e_ => HO150.out.1 k_ e_)); have n2_ := qam (blk_kept (by (with_reducible repeat (first | refine qb3 ?_ _ | refine qb5 ?_ | refine qb4 ?_ _)); exact BK151.out) hkp (fun hs_ => (fun e_ => (Kd.R_ne HO150.out BK151.out (by decide)) e_) hs_)); have n3_ := qam (hb); clear BK147; clear HO150; clear BK151; clear HB; have BK147 := n0_; have HO150 := n1_; have BK151 := n2_; have HB := n3_; clear n0_ n1_ n2_ n3_; (try clear hb); (try clear hkp); (try clear hy0); have hcz18_0 : w17.cell? ⟨gb147, 0, none⟩ = some (.slice A0_0 l0_0.length c0_0) := (qb1 BK147.out 0).trans rfl; have hcz18_1 : w17.cell? ⟨gb147, 1, none⟩ = some (.slice A0_1 l0_1.length c0_1) := (qb1 BK147.out 1).trans rfl; have hcz18_2 : w17.cell? ⟨gb147, 2, none⟩ = some (.int .i64 a0_2) := (qb1 BK147.out 2).trans rfl; have hfz18_0 := qb2 BK147.out 0; have hfz18_1 := qb2 BK147.out 1; have hfz18_2 := qb2 BK147.out 2))
 go_loopg [19] k (fun kq v19 w' => ∃ (x19_1 : Int), v19 = .int .i64 x19_1 ∧ Aside0 (super_unsorted.l0 kq l0_1 (l0_1.length : Int) x19_1 l0_0 l0_1 a0_2 l0_0 t152 0 = some r) ∧ Aside0 (kq ≤ k) ∧ Aside0 (Kd.R k32 32 w' w.heap.size (fun _ => True) (.slice Ao10 t148.length co10) t152) ∧ Aside0 (w'.heap[gb147]? = some (.cells #[(.slice A0_0 l0_0.length c0_0), (.slice A0_1 l0_1.length c0_1), .int .i64 a0_2] 25 (0, 0))) ∧ Aside0 (w'.heap[gb151]? = some (.cells #[(.slice A0_0 l0_0.length c0_0), (.slice Ao10 t148.length co10), .int .i64 0] 25 (0, 0))) ∧ Aside0 (Below w.heap.size w w'))
 case atStart => exact ⟨(0), (by first | rfl | (simp; done) | (simp [*]; done)), H', ⟨Nat.le_refl _⟩, ⟨by (with_reducible repeat (first | apply qk1 | apply qk2 | apply qk3)); exact HO150.out⟩, ⟨by (with_reducible repeat (first | refine qb3 ?_ _ | refine qb5 ?_ | refine qb4 ?_ _)); exact BK147.out⟩, ⟨by (with_reducible repeat (first | refine qb3 ?_ _ | refine qb5 ?_ | refine qb4 ?_ _)); exact BK151.out⟩, ⟨by repeat (first | (with_reducible first | exact HB.out | apply qw1 | apply qw2 | apply qw3 | refine qw4 ?_ GE147.out | refine qw4 ?_ GE151.out) | exact HB.out)⟩⟩
 case round =>
  clear H'
  try clear c1
  try clear p2
  try clear c9
  try clear c11
  try clear c14
  try clear c15
  try clear hcz16_0
  try clear hcz16_1
  try clear hcz16_2
  try clear hcz18_0
  try clear hcz18_1
  try clear hcz18_2
  try clear hfz16_0
  try clear hfz16_1
  try clear hfz16_2
  try clear hfz18_0
  try clear hfz18_1
  try clear hfz18_2
  obtain ⟨x19_1, rfl, HA, HK1, HO_152001, BK147, BK151, HB⟩ := hrel
  have hl152001_1 := (Kd.R_reads' HO_152001.out).1
  rw [hl152001_1] at HO_152001
  (try simp only [hl152001_1])
  (try simp only [hl152001_1] at BK147)
  (try simp only [hl152001_1] at BK151)
  cases gk with
  | zero => exact absurd HA.out (by simp [super_unsorted.l0])
  | succ k1 =>
   have H := HA.out
   clear HA
   simp only [super_unsorted.l0] at H
   by_cases c19 : x19_1 < (l0_1.length : Int)
   ·rw [if_pos c19] at H
    have c19b0 : decide (x19_1 < (l0_1.length : Int)) = true := decide_eq_true c19
    clear c19
    by_cases c20 : 0 ≤ x19_1
    ·rw [if_pos c20] at H
     have c20b0 : decide (0 ≤ x19_1) = true := decide_eq_true c20
     clear c20
     by_cases c21 : x19_1 < (l0_1.length : Int)
     ·rw [if_pos c21] at H
      have c21b0 : decide (x19_1 < (l0_1.length : Int)) = true := decide_eq_true c21
      clear c21
      obtain ⟨ji22, hji22⟩ : ∃ j_ : Int, (wrap64 (x19_1 + 1)) = j_ := ⟨_, rfl⟩
      replace H : (if 0 ≤ (ji22) then (if (ji22) ≤ (l0_1.length : Int) then ((super_checkEdge.f k1 l0_0 (l0_1.take ((ji22) : Int).toNat) 0 x19_1).bind fun t159 => (if t159 = 20 then (if ((rd_T32 l0_1 x19_1).f2) = 2 then (super_unsorted.j1 k1 t159 l0_1 (l0_1.length : Int) x19_1 false l0_0 l0_1 a0_2 l0_0 t152 0) else ((super_fits.f k1 l0_0 t152 0 ((rd_T32 l0_1 x19_1).f0) ((rd_T32 l0_1 x19_1).f1) ((rd_T32 l0_1 x19_1).f2) ((rd_T32 l0_1 x19_1).f3)).bind fun t160 => (super_unsorted.j1 k1 t159 l0_1 (l0_1.length : Int) x19_1 t160 l0_0 l0_1 a0_2 l0_0 t152 0))) else (super_unsorted.j1 k1 t159 l0_1 (l0_1.length : Int) x19_1 false l0_0 l0_1 a0_2 l0_0 t152 0))) else (none)) else (none)) = some r := by first | (rw [hji22] at H; exact H) | (simp only [hji22] at H ⊢; exact H)
      have hji22w : (IntKind.i64.wrap (x19_1 + 1)) = ji22 := (i64_w _).trans hji22
      by_cases c23 : 0 ≤ (ji22)
      ·rw [if_pos c23] at H
       have c23b0 := eq_true c23
       have c23b1 : decide (0 ≤ (ji22)) = true := decide_eq_true c23
       clear c23
       by_cases c24 : (ji22) ≤ (l0_1.length : Int)
       ·rw [if_pos c24] at H
        have c24b0 := eq_true c24
        have c24b1 : decide ((ji22) ≤ (l0_1.length : Int)) = true := decide_eq_true c24
        clear c24
        obtain ⟨y155, hy155⟩ : ∃ y_ : List (S32), y_ = (l0_1.take ((ji22) : Int).toNat) := ⟨_, rfl⟩
        replace H : ((super_checkEdge.f k1 l0_0 y155 0 x19_1).bind fun t159 => (if t159 = 20 then (if ((rd_T32 l0_1 x19_1).f2) = 2 then (super_unsorted.j1 k1 t159 l0_1 (l0_1.length : Int) x19_1 false l0_0 l0_1 a0_2 l0_0 t152 0) else ((super_fits.f k1 l0_0 t152 0 ((rd_T32 l0_1 x19_1).f0) ((rd_T32 l0_1 x19_1).f1) ((rd_T32 l0_1 x19_1).f2) ((rd_T32 l0_1 x19_1).f3)).bind fun t160 => (super_unsorted.j1 k1 t159 l0_1 (l0_1.length : Int) x19_1 t160 l0_0 l0_1 a0_2 l0_0 t152 0))) else (super_unsorted.j1 k1 t159 l0_1 (l0_1.length : Int) x19_1 false l0_0 l0_1 a0_2 l0_0 t152 0))) = some r := by first | (rw [hy155]; with_reducible exact H) | (have H2_ := (Option.bind_some _ _).symm.trans H; rw [hy155]; with_reducible exact H2_) | (have H2_ := (Option.bind_some _ _).symm.trans H; with_reducible exact H2_) | with_reducible exact H | (rw [hy155]; exact H) | exact H
        have Ny155 := qam hy155
        clear hy155
        replace H := Option.bind_eq_some_iff.mp H
        obtain ⟨t159, A250, H⟩ := H
        replace H : (if t159 = 20 then (if ((rd_T32 l0_1 x19_1).f2) = 2 then (super_unsorted.j1 k1 t159 l0_1 (l0_1.length : Int) x19_1 false l0_0 l0_1 a0_2 l0_0 t152 0) else ((super_fits.f k1 l0_0 t152 0 ((rd_T32 l0_1 x19_1).f0) ((rd_T32 l0_1 x19_1).f1) ((rd_T32 l0_1 x19_1).f2) ((rd_T32 l0_1 x19_1).f3)).bind fun t160 => (super_unsorted.j1 k1 t159 l0_1 (l0_1.length : Int) x19_1 t160 l0_0 l0_1 a0_2 l0_0 t152 0))) else (super_unsorted.j1 k1 t159 l0_1 (l0_1.length : Int) x19_1 false l0_0 l0_1 a0_2 l0_0 t152 0)) = some r := H
        have A25 := qam A250
        clear A250
        have HC26 := qam H
        clear H
        have p153 : 0 ≤ (x19_1 : Int) := of_decide_eq_true (by first | (with_reducible assumption) | assumption)
        have q153 : x19_1 < (l0_1.length : Int) := of_decide_eq_true (by first | (with_reducible assumption) | assumption)
        obtain ⟨ad153, e153, hx153_0, hx153_1, hx153_2, hx153_3⟩ := at_T32 HR0_1.out x19_1 p153 q153
        cases e153
        replace hx153_0 := (HB.out.cell (qbl w _ hx153_0)).trans hx153_0
        replace hx153_1 := (HB.out.cell (qbl w _ hx153_1)).trans hx153_1
        replace hx153_2 := (HB.out.cell (qbl w _ hx153_2)).trans hx153_2
        replace hx153_3 := (HB.out.cell (qbl w _ hx153_3)).trans hx153_3
        replace p153 := eq_true p153
        replace q153 := eq_true q153
        try go_wp2_with (first | ((with_reducible refine gate_dst (N := 5) rfl ?_); refine box_event ?hg (N := 5) ?hd (cs := #[.int .i64 0, .int .i64 0, .int .i64 0, .int .i64 0]) (t := 32) ?hr ?_; (case hd => rfl); (case hg => rfl); (case hr => first | (go_simp; done) | (go_simp; rfl)); intro gb154 hg w27 hbox hb; have n0_ := qam (Kd.R_below (Kd.R_elderB (by (with_reducible repeat (first | apply qk1 | apply qk2 | apply qk3)); exact HO_152001.out) gb154 (Nat.le_of_eq hg.symm)) hb); have n1_ := qam (blk_below (g := gb147) (o := .cells #[.slice A0_0 l0_0.length c0_0, .slice (some ad153) l0_1.length c0_1, .int .i64 a0_2] 25 (0, 0)) (by (with_reducible repeat (first | refine qb3 ?_ _ | refine qb5 ?_ | refine qb4 ?_ _)); exact BK147.out) hb); have n2_ := qam (blk_below (g := gb151) (o := .cells #[.slice A0_0 l0_0.length c0_0, .slice Ao10 t152.length co10, .int .i64 0] 25 (0, 0)) (by (with_reducible repeat (first | refine qb3 ?_ _ | refine qb5 ?_ | refine qb4 ?_ _)); exact BK151.out) hb); have n3_ := qam (qw6 (by repeat (first | (with_reducible first | exact HB.out | apply qw1 | apply qw2 | apply qw3 | refine qw4 ?_ GE147.out | refine qw4 ?_ GE151.out) | exact HB.out)) hb); have n4_ := qam (hbox); have n5_ := qam ((by rw [hg]; exact (qw5 (by repeat (first | (with_reducible first | exact HB.out | apply qw1 | apply qw2 | apply qw3 | refine qw4 ?_ GE147.out | refine qw4 ?_ GE151.out) | exact HB.out))) : w.heap.size ≤ gb154)); have n6_ := qam ((by rw [hg]; exact (qw5 (by repeat (first | (with_reducible first | exact HB.out | apply qw1 | apply qw2 | apply qw3 | refine qw4 ?_ GE147.out | refine qw4 ?_ GE151.out) | exact HB.out))) : w.heap.size ≤ gb154)); have n7_ := qam ((by rw [hg]; exact qnn (blk_lt (g := gb147) (o := .cells #[.slice A0_0 l0_0.length c0_0, .slice (some ad153) l0_1.length c0_1, .int .i64 a0_2] 25 (0, 0)) (by (with_reducible repeat (first | refine qb3 ?_ _ | refine qb5 ?_ | refine qb4 ?_ _)); exact BK147.out)) : gb147 ≠ gb154)); have n8_ := qam ((by rw [hg]; exact Nat.ne_of_gt (blk_lt (g := gb147) (o := .cells #[.slice A0_0 l0_0.length c0_0, .slice (some ad153) l0_1.length c0_1, .int .i64 a0_2] 25 (0, 0)) (by (with_reducible repeat (first | refine qb3 ?_ _ | refine qb5 ?_ | refine qb4 ?_ _)); exact BK147.out)) : gb154 ≠ gb147)); have n9_ := qam ((by rw [hg]; exact qnn (blk_lt (g := gb151) (o := .cells #[.slice A0_0 l0_0.length c0_0, .slice Ao10 t152.length co10, .int .i64 0] 25 (0, 0)) (by (with_reducible repeat (first | refine qb3 ?_ _ | refine qb5 ?_ | refine qb4 ?_ _)); exact BK151.out)) : gb151 ≠ gb154)); have n10_ := qam ((by rw [hg]; exact Nat.ne_of_gt (blk_lt (g := gb151) (o := .cells #[.slice A0_0 l0_0.length c0_0, .slice Ao10 t152.length co10, .int .i64 0] 25 (0, 0)) (by (with_reducible repeat (first | refine qb3 ?_ _ | refine qb5 ?_ | refine qb4 ?_ _)); exact BK151.out)) : gb154 ≠ gb151)); clear HO_152001; clear BK147; clear BK151; clear HB; have HO_152001 := n0_; have BK147 := n1_; have BK151 := n2_; have HB := n3_; have BK154 := n4_; have GW154 := n5_; have GE154 := n6_; have NB147_154 := n7_; have NB154_147 := n8_; have NB151_154 := n9_; have NB154_151 := n10_; clear n0_ n1_ n2_ n3_ n4_ n5_ n6_ n7_ n8_ n9_ n10_; clear hb hbox hg; have hnb28 := NB154_147.out; have hnc28 := NB147_154.out; have hnb29 := NB154_151.out; have hnc29 := NB151_154.out; have hcz30_0 : w27.cell? ⟨gb154, 0, none⟩ = some (.int .i64 0) := (qb1 BK154.out 0).trans rfl; have hcz30_1 : w27.cell? ⟨gb154, 1, none⟩ = some (.int .i64 0) := (qb1 BK154.out 1).trans rfl; have hcz30_2 : w27.cell? ⟨gb154, 2, none⟩ = some (.int .i64 0) := (qb1 BK154.out 2).trans rfl; have hcz30_3 : w27.cell? ⟨gb154, 3, none⟩ = some (.int .i64 0) := (qb1 BK154.out 3).trans rfl; have hfz30_0 := qb2 BK154.out 0; have hfz30_1 := qb2 BK154.out 1; have hfz30_2 := qb2 BK154.out 2; have hfz30_3 := qb2 BK154.out 3))
        have n0_ : Aside0 (Kd.R k32 32 ((((w27.setCell ⟨gb154, 0, none⟩ (.int .i64 ((rd_T32 l0_1 x19_1).f0))).setCell ⟨gb154, 1, none⟩ (.int .i64 ((rd_T32 l0_1 x19_1).f1))).setCell ⟨gb154, 2, none⟩ (.int .i64 ((rd_T32 l0_1 x19_1).f2))).setCell ⟨gb154, 3, none⟩ (.int .i64 ((rd_T32 l0_1 x19_1).f3))) w.heap.size (fun k_ => k_ ≠ gb154) (.slice Ao10 t152.length co10) t152) := ⟨by (with_reducible repeat (first | apply qk1 | apply qk2 | apply qk3)); exact Kd.R_mono (Kd.R_far (p := ⟨gb154, 3, none⟩) (Kd.R_far (p := ⟨gb154, 2, none⟩) (Kd.R_far (p := ⟨gb154, 1, none⟩) (Kd.R_far (p := ⟨gb154, 0, none⟩) (Kd.R_mono HO_152001.out (fun k_ hk => (⟨hk, hk.2⟩ : _ ∧ k_ ≠ gb154))) (fun _ hk => hk.2) (.int .i64 ((rd_T32 l0_1 x19_1).f0))) (fun _ hk => hk.2) (.int .i64 ((rd_T32 l0_1 x19_1).f1))) (fun _ hk => hk.2) (.int .i64 ((rd_T32 l0_1 x19_1).f2))) (fun _ hk => hk.2) (.int .i64 ((rd_T32 l0_1 x19_1).f3))) (fun _ hk => hk.1.2)⟩
        have n1_ : Aside0 (((((w27.setCell ⟨gb154, 0, none⟩ (.int .i64 ((rd_T32 l0_1 x19_1).f0))).setCell ⟨gb154, 1, none⟩ (.int .i64 ((rd_T32 l0_1 x19_1).f1))).setCell ⟨gb154, 2, none⟩ (.int .i64 ((rd_T32 l0_1 x19_1).f2))).setCell ⟨gb154, 3, none⟩ (.int .i64 ((rd_T32 l0_1 x19_1).f3))).heap[gb147]? = some (.cells #[.slice A0_0 l0_0.length c0_0, .slice (some ad153) l0_1.length c0_1, .int .i64 a0_2] 25 (0, 0))) := ⟨by (with_reducible repeat (first | refine qb3 ?_ _ | refine qb5 ?_ | refine qb4 ?_ _)); refine blk_far ?_ NB147_154.out _; (with_reducible repeat (first | refine qb3 ?_ _ | refine qb5 ?_ | refine qb4 ?_ _)); refine blk_far ?_ NB147_154.out _; (with_reducible repeat (first | refine qb3 ?_ _ | refine qb5 ?_ | refine qb4 ?_ _)); refine blk_far ?_ NB147_154.out _; (with_reducible repeat (first | refine qb3 ?_ _ | refine qb5 ?_ | refine qb4 ?_ _)); refine blk_far ?_ NB147_154.out _; (with_reducible repeat (first | refine qb3 ?_ _ | refine qb5 ?_ | refine qb4 ?_ _)); exact BK147.out⟩
        have n2_ : Aside0 (((((w27.setCell ⟨gb154, 0, none⟩ (.int .i64 ((rd_T32 l0_1 x19_1).f0))).setCell ⟨gb154, 1, none⟩ (.int .i64 ((rd_T32 l0_1 x19_1).f1))).setCell ⟨gb154, 2, none⟩ (.int .i64 ((rd_T32 l0_1 x19_1).f2))).setCell ⟨gb154, 3, none⟩ (.int .i64 ((rd_T32 l0_1 x19_1).f3))).heap[gb151]? = some (.cells #[.slice A0_0 l0_0.length c0_0, .slice Ao10 t152.length co10, .int .i64 0] 25 (0, 0))) := ⟨by (with_reducible repeat (first | refine qb3 ?_ _ | refine qb5 ?_ | refine qb4 ?_ _)); refine blk_far ?_ NB151_154.out _; (with_reducible repeat (first | refine qb3 ?_ _ | refine qb5 ?_ | refine qb4 ?_ _)); refine blk_far ?_ NB151_154.out _; (with_reducible repeat (first | refine qb3 ?_ _ | refine qb5 ?_ | refine qb4 ?_ _)); refine blk_far ?_ NB151_154.out _; (with_reducible repeat (first | refine qb3 ?_ _ | refine qb5 ?_ | refine qb4 ?_ _)); refine blk_far ?_ NB151_154.out _; (with_reducible repeat (first | refine qb3 ?_ _ | refine qb5 ?_ | refine qb4 ?_ _)); exact BK151.out⟩
        have n3_ : Aside0 (((((w27.setCell ⟨gb154, 0, none⟩ (.int .i64 ((rd_T32 l0_1 x19_1).f0))).setCell ⟨gb154, 1, none⟩ (.int .i64 ((rd_T32 l0_1 x19_1).f1))).setCell ⟨gb154, 2, none⟩ (.int .i64 ((rd_T32 l0_1 x19_1).f2))).setCell ⟨gb154, 3, none⟩ (.int .i64 ((rd_T32 l0_1 x19_1).f3))).heap[gb154]? = some (.cells #[.int .i64 ((rd_T32 l0_1 x19_1).f0), .int .i64 ((rd_T32 l0_1 x19_1).f1), .int .i64 ((rd_T32 l0_1 x19_1).f2), .int .i64 ((rd_T32 l0_1 x19_1).f3)] 32 (0, 0))) := ⟨by (with_reducible repeat (first | refine qb3 ?_ _ | refine qb5 ?_ | refine qb4 ?_ _)); refine blk_put (cs := #[.int .i64 ((rd_T32 l0_1 x19_1).f0), .int .i64 ((rd_T32 l0_1 x19_1).f1), .int .i64 ((rd_T32 l0_1 x19_1).f2), .int .i64 0]) ?_ 3 _ rfl; (with_reducible repeat (first | refine qb3 ?_ _ | refine qb5 ?_ | refine qb4 ?_ _)); refine blk_put (cs := #[.int .i64 ((rd_T32 l0_1 x19_1).f0), .int .i64 ((rd_T32 l0_1 x19_1).f1), .int .i64 0, .int .i64 0]) ?_ 2 _ rfl; (with_reducible repeat (first | refine qb3 ?_ _ | refine qb5 ?_ | refine qb4 ?_ _)); refine blk_put (cs := #[.int .i64 ((rd_T32 l0_1 x19_1).f0), .int .i64 0, .int .i64 0, .int .i64 0]) ?_ 1 _ rfl; (with_reducible repeat (first | refine qb3 ?_ _ | refine qb5 ?_ | refine qb4 ?_ _)); refine blk_put (cs := #[.int .i64 0, .int .i64 0, .int .i64 0, .int .i64 0]) ?_ 0 _ rfl; (with_reducible repeat (first | refine qb3 ?_ _ | refine qb5 ?_ | refine qb4 ?_ _)); exact BK154.out⟩
        have n4_ : Aside0 (Below w.heap.size w ((((w27.setCell ⟨gb154, 0, none⟩ (.int .i64 ((rd_T32 l0_1 x19_1).f0))).setCell ⟨gb154, 1, none⟩ (.int .i64 ((rd_T32 l0_1 x19_1).f1))).setCell ⟨gb154, 2, none⟩ (.int .i64 ((rd_T32 l0_1 x19_1).f2))).setCell ⟨gb154, 3, none⟩ (.int .i64 ((rd_T32 l0_1 x19_1).f3)))) := ⟨by repeat (first | (with_reducible first | exact HB.out | apply qw1 | apply qw2 | apply qw3 | refine qw4 ?_ GE147.out | refine qw4 ?_ GE151.out | refine qw4 ?_ GE154.out) | exact HB.out)⟩
        (try clear HO_152001)
        (try clear BK147)
        (try clear BK151)
        (try clear BK154)
        (try clear HB)
        generalize ((((w27.setCell ⟨gb154, 0, none⟩ (.int .i64 ((rd_T32 l0_1 x19_1).f0))).setCell ⟨gb154, 1, none⟩ (.int .i64 ((rd_T32 l0_1 x19_1).f1))).setCell ⟨gb154, 2, none⟩ (.int .i64 ((rd_T32 l0_1 x19_1).f2))).setCell ⟨gb154, 3, none⟩ (.int .i64 ((rd_T32 l0_1 x19_1).f3))) = w31 at n0_ n1_ n2_ n3_ n4_ ⊢
        have HO_152001 := n0_
        have BK147 := n1_
        have BK151 := n2_
        have BK154 := n3_
        have HB := n4_
        clear n0_ n1_ n2_ n3_ n4_
        have n0_ := qam (qk3 HO_152001.out)
        have n1_ := qam (qb5 BK147.out)
        have n2_ := qam (qb5 BK151.out)
        have n3_ := qam (qb5 BK154.out)
        have n4_ := qam (qw3 HB.out)
        clear HO_152001
        clear BK147
        clear BK151
        clear BK154
        clear HB
        have HO_152001 := n0_
        have BK147 := n1_
        have BK151 := n2_
        have BK154 := n3_
        have HB := n4_
        clear n0_ n1_ n2_ n3_ n4_
        have q33 : ((ji22) : Int) ≤ ((l0_1.length : Int) : Int) := of_decide_eq_true (by first | (with_reducible assumption) | assumption)
        obtain ⟨i033, hi033, _, hsz33, _⟩ := info_parts info32
        have hroom33 : l0_1.length ≤ c0_1 := HC0_1.out
        have hC33 : Kd.C k32 _ (some ad153) l0_1.length l0_1 := HR0_1.out
        have hcut33 := cut_to (P := Try.prog) 23 32 .i64 Try.underlying23 hi033 (some ad153) l0_1.length c0_1 (ji22) (of_decide_eq_true (by first | (with_reducible assumption) | assumption)) q33 hroom33
        have hr33 := Kd.C_take (m := ((ji22) : Int).toNat) hC33 (by omega)
        have hy33 : y155.length = ((ji22) : Int).toNat := (by rw [Ny155.out, List.length_take]; omega)
        rw [← Ny155.out] at hr33
        rw [← hy33] at hcut33
        have HR158 := qam hr33
        have HC158 := qam (show y155.length ≤ c0_1 from by omega)
        clear hr33 hC33 hroom33 hi033 hsz33
        have KY33 := qam hy33
        clear hy33
        replace q33 := eq_true q33
        refine start_ (n := 11) (S := fun w' => w'.cell? ⟨gb147, 0, none⟩ = some (.slice A0_0 l0_0.length c0_0) ∧ w'.cell? ⟨gb147, 1, none⟩ = some (.slice (some ad153) l0_1.length c0_1) ∧ w'.cell? ⟨gb147, 2, none⟩ = some (.int .i64 a0_2)) (ds := []) #[false, false, false, false, false, false, false, false, false, false, false] (by kernel_rfl) rfl rfl ⟨(qb1 BK147.out 0).trans rfl, (qb1 BK147.out 1).trans rfl, (qb1 BK147.out 2).trans rfl⟩ (fun hHeld => ?_); refine with_tabW super_unsorted.tab6 super_unsorted.bits6 (fun HT_ HW_ => ?_)
        generalize w31.drew = w32 at HO_152001 BK147 BK151 BK154 HB HR158 hHeld ⊢
        refine pure_ (i := 0) (N := some 24) (v := ?_) (a' := ?_) #[true, false, false, false, false, false, false, false, false, false, false] rfl rfl (any_of HT_.out (by kernel_rfl)) (fun _ _ _ h => h) (Or.inl ⟨by rfl, ?_⟩) ?_ ?_
        rotate_left
        ·intro w'
         go_simp
         with_reducible rfl
        rotate_left
        ·simp only [Act.put, qs1, qs2, qs3, i64_w, i32_w]
         rfl
        refine pure_ (i := 2) (N := some 26) (v := ?_) (a' := ?_) #[true, false, true, false, false, false, false, false, false, false, false] rfl rfl (any_of HT_.out (by kernel_rfl)) (fun _ _ _ h => h) (Or.inl ⟨by rfl, ?_⟩) ?_ ?_
        rotate_left
        ·intro w'
         go_simp
         with_reducible rfl
        rotate_left
        ·simp only [Act.put, qs1, qs2, qs3, i64_w, i32_w]
         rfl
        refine pure_ (i := 4) (N := some 28) (v := ?_) (a' := ?_) #[true, false, true, false, true, false, false, false, false, false, false] rfl rfl (any_of HT_.out (by kernel_rfl)) (fun _ _ _ h => h) (Or.inl ⟨by rfl, ?_⟩) ?_ ?_
        rotate_left
        ·intro w'
         go_simp
         with_reducible rfl
        rotate_left
        ·simp only [Act.put, qs1, qs2, qs3, i64_w, i32_w]
         rfl
        refine pure_ (i := 5) (N := some 29) (v := ?_) (a' := ?_) #[true, false, true, false, true, true, false, false, false, false, false] rfl rfl (any_of HT_.out (by kernel_rfl)) (fun _ _ _ h => h) (Or.inl ⟨by rfl, ?_⟩) ?_ ?_
        rotate_left
        ·intro w'
         go_simp
         with_reducible rfl
        rotate_left
        ·simp only [Act.put, qs1, qs2, qs3, i64_w, i32_w]
         rfl
        refine pure_ (i := 8) (N := some 32) (v := ?_) (a' := ?_) #[true, false, true, false, true, true, false, false, true, false, false] rfl rfl (any_of HT_.out (by kernel_rfl)) (fun _ _ _ h => h) (Or.inl ⟨by rfl, ?_⟩) ?_ ?_
        rotate_left
        ·intro w'
         go_simp
         with_reducible rfl
        rotate_left
        ·simp only [Act.put, qs1, qs2, qs3, i64_w, i32_w]
         rfl
        refine take_ (i := 1) (N := some 25) (v := ?_) (a' := ?_) #[true, true, true, false, true, true, false, false, true, false, false] rfl rfl (take_ofW HT_.out HW_.out (by kernel_rfl)) (fun _ _ _ h => h) (Or.inl ⟨by rfl, ?_⟩) hHeld ?_ ?_
        rotate_left
        ·rintro w' ⟨s0, s1, s2⟩
         go_simp
         with_reducible rfl
        rotate_left
        ·simp only [Act.put, qs1, qs2, qs3, i64_w, i32_w]
         rfl
        refine take_ (i := 3) (N := some 27) (v := ?_) (a' := ?_) #[true, true, true, true, true, true, false, false, true, false, false] rfl rfl (take_ofW HT_.out HW_.out (by kernel_rfl)) (fun _ _ _ h => h) (Or.inl ⟨by rfl, ?_⟩) hHeld ?_ ?_
        rotate_left
        ·rintro w' ⟨s0, s1, s2⟩
         go_simp
         with_reducible rfl
        rotate_left
        ·simp only [Act.put, qs1, qs2, qs3, i64_w, i32_w]
         rfl
        refine pure_ (i := 6) (N := some 30) (v := ?_) (a' := ?_) #[true, true, true, true, true, true, true, false, true, false, false] rfl rfl (any_of HT_.out (by kernel_rfl)) (fun _ _ _ h => h) (Or.inl ⟨by rfl, ?_⟩) ?_ ?_
        rotate_left
        ·intro w'
         go_simp
         with_reducible rfl
        rotate_left
        ·simp only [Act.put, qs1, qs2, qs3, i64_w, i32_w]
         rfl
        refine pure_ (i := 7) (N := some 31) (v := ?_) (a' := ?_) #[true, true, true, true, true, true, true, true, true, false, false] rfl rfl (any_of HT_.out (by kernel_rfl)) (fun _ _ _ h => h) (Or.inl ⟨by rfl, ?_⟩) ?_ ?_
        rotate_left
        ·intro w'
         go_simp
         with_reducible rfl
        rotate_left
        ·simp only [Act.put, qs1, qs2, qs3, i64_w, i32_w]
         rfl
        refine one_ (i := 9) (N := some 33) #[true, true, true, true, true, true, true, true, true, true, false] rfl rfl (one_of HT_.out (by kernel_rfl)) (by decide) (fun K hK => ?_)
        refine goes_ Try.func112 (by kernel_rfl) rfl #[.agg #[.slice A0_0 l0_0.length c0_0, .slice (some ad153) y155.length c0_1, .int .i64 0], .int .i64 x19_1] (by rfl) rfl rfl (by (try simp only [List.map_toArray, List.map_cons, List.map_nil]); first | done | rfl | (simp only [List.length_drop, List.length_take]; rfl)) ?_
        with_reducible refine (super_checkEdge.calls k1 _ _ l0_0 _ _ y155 0 x19_1 t159 _ ?side1 ?side2 ?side3 ?side4 A25.out).mono ?_
        (case side1 => repeat (first | exact (qk4 HR0_0.out HB.out) | (with_reducible refine Kd.C_alloc ?_ _) | (with_reducible refine Kd.C_drewN ?_ _) | (with_reducible refine Kd.C_drew ?_)))
        (case side2 => exact HC0_0.out)
        (case side3 => repeat (first | exact (qk4 HR158.out HB.out) | (with_reducible refine Kd.C_alloc ?_ _) | (with_reducible refine Kd.C_drewN ?_ _) | (with_reducible refine Kd.C_drew ?_)))
        (case side4 => exact HC158.out)
        rintro e w34 ⟨rfl, hb⟩
        refine ⟨_, rfl, ?_⟩
        have n0_ := qam (Kd.R_below (by (with_reducible repeat (first | apply qk1 | apply qk2 | apply qk3)); exact HO_152001.out) hb)
        have n1_ := qam (blk_below (g := gb147) (o := .cells #[.slice A0_0 l0_0.length c0_0, .slice (some ad153) l0_1.length c0_1, .int .i64 a0_2] 25 (0, 0)) (by (with_reducible repeat (first | refine qb3 ?_ _ | refine qb5 ?_ | refine qb4 ?_ _)); exact BK147.out) hb)
        have n2_ := qam (blk_below (g := gb151) (o := .cells #[.slice A0_0 l0_0.length c0_0, .slice Ao10 t152.length co10, .int .i64 0] 25 (0, 0)) (by (with_reducible repeat (first | refine qb3 ?_ _ | refine qb5 ?_ | refine qb4 ?_ _)); exact BK151.out) hb)
        have n3_ := qam (blk_below (g := gb154) (o := .cells #[.int .i64 ((rd_T32 l0_1 x19_1).f0), .int .i64 ((rd_T32 l0_1 x19_1).f1), .int .i64 ((rd_T32 l0_1 x19_1).f2), .int .i64 ((rd_T32 l0_1 x19_1).f3)] 32 (0, 0)) (by (with_reducible repeat (first | refine qb3 ?_ _ | refine qb5 ?_ | refine qb4 ?_ _)); exact BK154.out) hb)
        have n4_ := qam (qw6 (by repeat (first | (with_reducible first | exact HB.out | apply qw1 | apply qw2 | apply qw3 | refine qw4 ?_ GE147.out | refine qw4 ?_ GE151.out | refine qw4 ?_ GE154.out) | exact HB.out)) hb)
        clear HO_152001
        clear BK147
        clear BK151
        clear BK154
        clear HB
        have HO_152001 := n0_
        have BK147 := n1_
        have BK151 := n2_
        have BK154 := n3_
        have HB := n4_
        clear n0_ n1_ n2_ n3_ n4_
        (try clear hb)
        (try clear hb2)
        (try clear hk)
        (try clear hi)
        refine hK.out _ _ ⟨(qb1 BK147.out 0).trans rfl, (qb1 BK147.out 1).trans rfl, (qb1 BK147.out 2).trans rfl⟩ (fun hHeld => ?_)
        clear hK K
        refine norm_ (a' := ?_) ?_ ?_
        rotate_left
        ·show Act.put _ (some 33) _ = _
         simp only [Act.put, qs1, qs2, qs3, i64_w, i32_w]
         rfl
        refine pure_ (i := 10) (N := some 6) (v := ?_) (a' := ?_) #[true, true, true, true, true, true, true, true, true, true, true] rfl rfl (any_of HT_.out (by kernel_rfl)) (fun _ _ _ h => h) (Or.inl ⟨by rfl, ?_⟩) ?_ ?_
        rotate_left
        ·intro w'
         go_simp
         with_reducible rfl
        rotate_left
        ·simp only [Act.put, qs1, qs2, qs3, i64_w, i32_w]
         rfl
        refine done_ (done_of HT_.out (by kernel_rfl)) ?_
        go_upto_region 7 with (fail)
        go_cut [45] (fun v45 wc => ∃ (kq : Nat) (x45_25 : Bool), v45 = .bool x45_25 ∧ Aside0 (super_unsorted.j1 kq t159 l0_1 (l0_1.length : Int) x19_1 x45_25 l0_0 l0_1 a0_2 l0_0 t152 0 = some r) ∧ Aside0 (kq ≤ k1) ∧ Aside0 (Kd.R k32 32 wc w.heap.size (fun k_ => k_ ≠ gb154) (.slice Ao10 t152.length co10) t152) ∧ Aside0 (wc.heap[gb147]? = some (.cells #[(.slice A0_0 l0_0.length c0_0), (.slice (some ad153) l0_1.length c0_1), .int .i64 a0_2] 25 (0, 0))) ∧ Aside0 (wc.heap[gb151]? = some (.cells #[(.slice A0_0 l0_0.length c0_0), (.slice Ao10 t152.length co10), .int .i64 0] 25 (0, 0))) ∧ Aside0 (wc.heap[gb154]? = some (.cells #[.int .i64 ((rd_T32 l0_1 x19_1).f0), .int .i64 ((rd_T32 l0_1 x19_1).f1), .int .i64 ((rd_T32 l0_1 x19_1).f2), .int .i64 ((rd_T32 l0_1 x19_1).f3)] 32 (0, 0))) ∧ Aside0 (Below w.heap.size w wc))
        case first =>
         have H := HC26.out
         clear HC26
         by_cases c35 : t159 = 20
         ·rw [if_pos c35] at H
          have c35b0 : (t159 == 20) = true := beq_iff_eq.mpr c35
          have c35b1 : (t159 != 20) = false := bne_eq_false_iff_eq.mpr c35
          clear c35
          (first | rw [c35b0] | (simp only [i64_w, i32_w]; rw [c35b0]) | skip)
          by_cases c36 : ((rd_T32 l0_1 x19_1).f2) = 2
          ·rw [if_pos c36] at H
           have c36b0 : (((rd_T32 l0_1 x19_1).f2) == 2) = true := beq_iff_eq.mpr c36
           have c36b1 : (((rd_T32 l0_1 x19_1).f2) != 2) = false := bne_eq_false_iff_eq.mpr c36
           clear c36
           have H' := qam H
           clear H
           have hnb37 := NB154_147.out
           have hnc37 := NB147_154.out
           have hnb38 := NB154_151.out
           have hnc38 := NB151_154.out
           have hcz39_0 : w34.cell? ⟨gb154, 0, none⟩ = some (.int .i64 ((rd_T32 l0_1 x19_1).f0)) := (qb1 BK154.out 0).trans rfl
           have hcz39_1 : w34.cell? ⟨gb154, 1, none⟩ = some (.int .i64 ((rd_T32 l0_1 x19_1).f1)) := (qb1 BK154.out 1).trans rfl
           have hcz39_2 : w34.cell? ⟨gb154, 2, none⟩ = some (.int .i64 ((rd_T32 l0_1 x19_1).f2)) := (qb1 BK154.out 2).trans rfl
           have hcz39_3 : w34.cell? ⟨gb154, 3, none⟩ = some (.int .i64 ((rd_T32 l0_1 x19_1).f3)) := (qb1 BK154.out 3).trans rfl
           have hfz39_0 := qb2 BK154.out 0
           have hfz39_1 := qb2 BK154.out 1
           have hfz39_2 := qb2 BK154.out 2
           have hfz39_3 := qb2 BK154.out 3
           go_wp2
           go_meet
           case rel => exact ⟨_, (false), (by first | rfl | (simp; done) | (simp [*]; done)), H', ⟨by have := HK1.out; first | omega | exact Nat.le_refl _⟩, ⟨by (try simp only [hl152001_1]); (with_reducible repeat (first | apply qk1 | apply qk2 | apply qk3)); exact HO_152001.out⟩, ⟨by (try simp only [hl152001_1]); (with_reducible repeat (first | refine qb3 ?_ _ | refine qb5 ?_ | refine qb4 ?_ _)); exact BK147.out⟩, ⟨by (try simp only [hl152001_1]); (with_reducible repeat (first | refine qb3 ?_ _ | refine qb5 ?_ | refine qb4 ?_ _)); exact BK151.out⟩, ⟨by (try simp only [hl152001_1]); (with_reducible repeat (first | refine qb3 ?_ _ | refine qb5 ?_ | refine qb4 ?_ _)); exact BK154.out⟩, ⟨by repeat (first | (with_reducible first | exact HB.out | apply qw1 | apply qw2 | apply qw3 | refine qw4 ?_ GE147.out | refine qw4 ?_ GE151.out | refine qw4 ?_ GE154.out) | exact HB.out)⟩⟩
          ·rw [if_neg c36] at H
           have c36b0 : (((rd_T32 l0_1 x19_1).f2) == 2) = false := beq_eq_false_iff_ne.mpr c36
           have c36b1 : (((rd_T32 l0_1 x19_1).f2) != 2) = true := bne_iff_ne.mpr c36
           replace H := Option.bind_eq_some_iff.mp H
           obtain ⟨t160, A400, H⟩ := H
           replace H : (super_unsorted.j1 k1 t159 l0_1 (l0_1.length : Int) x19_1 t160 l0_0 l0_1 a0_2 l0_0 t152 0) = some r := H
           have A40 := qam A400
           clear A400
           have H' := qam H
           clear H
           have hnb41 := NB154_147.out
           have hnc41 := NB147_154.out
           have hnb42 := NB154_151.out
           have hnc42 := NB151_154.out
           have hcz43_0 : w34.cell? ⟨gb154, 0, none⟩ = some (.int .i64 ((rd_T32 l0_1 x19_1).f0)) := (qb1 BK154.out 0).trans rfl
           have hcz43_1 : w34.cell? ⟨gb154, 1, none⟩ = some (.int .i64 ((rd_T32 l0_1 x19_1).f1)) := (qb1 BK154.out 1).trans rfl
           have hcz43_2 : w34.cell? ⟨gb154, 2, none⟩ = some (.int .i64 ((rd_T32 l0_1 x19_1).f2)) := (qb1 BK154.out 2).trans rfl
           have hcz43_3 : w34.cell? ⟨gb154, 3, none⟩ = some (.int .i64 ((rd_T32 l0_1 x19_1).f3)) := (qb1 BK154.out 3).trans rfl
           have hfz43_0 := qb2 BK154.out 0
           have hfz43_1 := qb2 BK154.out 1
           have hfz43_2 := qb2 BK154.out 2
           have hfz43_3 := qb2 BK154.out 3
           have hnb44 := NB151_147.out
           have hnc44 := NB147_151.out
           have hcz45_0 : w34.cell? ⟨gb151, 0, none⟩ = some (.slice A0_0 l0_0.length c0_0) := (qb1 BK151.out 0).trans rfl
           have hcz45_1 : w34.cell? ⟨gb151, 1, none⟩ = some (.slice Ao10 t152.length co10) := (qb1 BK151.out 1).trans rfl
           have hcz45_2 : w34.cell? ⟨gb151, 2, none⟩ = some (.int .i64 0) := (qb1 BK151.out 2).trans rfl
           have hfz45_0 := qb2 BK151.out 0
           have hfz45_1 := qb2 BK151.out 1
           have hfz45_2 := qb2 BK151.out 2
           go_wp2_with (first | (go_at_call 150; (with_reducible refine (super_fits.calls k1 _ _ l0_0 _ _ t152 0 ((rd_T32 l0_1 x19_1).f0) ((rd_T32 l0_1 x19_1).f1) ((rd_T32 l0_1 x19_1).f2) ((rd_T32 l0_1 x19_1).f3) t160 _ ?side1 ?side2 ?side3 ?side4 A40.out).mono ?_); (case side1 => repeat (first | exact (qk4 HR0_0.out HB.out) | (with_reducible refine Kd.C_alloc ?_ _) | (with_reducible refine Kd.C_drewN ?_ _) | (with_reducible refine Kd.C_drew ?_))); (case side2 => exact HC0_0.out); (case side3 => repeat (first | exact (Kd.R_reads' HO_152001.out).2.2 | (with_reducible refine Kd.C_alloc ?_ _) | (with_reducible refine Kd.C_drewN ?_ _) | (with_reducible refine Kd.C_drew ?_))); (case side4 => exact (Kd.R_reads' HO_152001.out).2.1); rintro e w46 ⟨rfl, hb⟩; have n0_ := qam (Kd.R_below (by (with_reducible repeat (first | apply qk1 | apply qk2 | apply qk3)); exact HO_152001.out) hb); have n1_ := qam (blk_below (g := gb147) (o := .cells #[.slice A0_0 l0_0.length c0_0, .slice (some ad153) l0_1.length c0_1, .int .i64 a0_2] 25 (0, 0)) (by (with_reducible repeat (first | refine qb3 ?_ _ | refine qb5 ?_ | refine qb4 ?_ _)); exact BK147.out) hb); have n2_ := qam (blk_below (g := gb151) (o := .cells #[.slice A0_0 l0_0.length c0_0, .slice Ao10 t152.length co10, .int .i64 0] 25 (0, 0)) (by (with_reducible repeat (first | refine qb3 ?_ _ | refine qb5 ?_ | refine qb4 ?_ _)); exact BK151.out) hb); have n3_ := qam (blk_below (g := gb154) (o := .cells #[.int .i64 ((rd_T32 l0_1 x19_1).f0), .int .i64 ((rd_T32 l0_1 x19_1).f1), .int .i64 ((rd_T32 l0_1 x19_1).f2), .int .i64 ((rd_T32 l0_1 x19_1).f3)] 32 (0, 0)) (by (with_reducible repeat (first | refine qb3 ?_ _ | refine qb5 ?_ | refine qb4 ?_ _)); exact BK154.out) hb); have n4_ := qam (qw6 (by repeat (first | (with_reducible first | exact HB.out | apply qw1 | apply qw2 | apply qw3 | refine qw4 ?_ GE147.out | refine qw4 ?_ GE151.out | refine qw4 ?_ GE154.out) | exact HB.out)) hb); clear HO_152001; clear BK147; clear BK151; clear BK154; clear HB; have HO_152001 := n0_; have BK147 := n1_; have BK151 := n2_; have BK154 := n3_; have HB := n4_; clear n0_ n1_ n2_ n3_ n4_; (try clear hb); (try clear hb2); (try clear hk); (try clear hi)))
           go_meet
           case rel => exact ⟨_, (t160), (by first | rfl | (simp; done) | (simp [*]; done)), H', ⟨by have := HK1.out; first | omega | exact Nat.le_refl _⟩, ⟨by (try simp only [hl152001_1]); (with_reducible repeat (first | apply qk1 | apply qk2 | apply qk3)); exact HO_152001.out⟩, ⟨by (try simp only [hl152001_1]); (with_reducible repeat (first | refine qb3 ?_ _ | refine qb5 ?_ | refine qb4 ?_ _)); exact BK147.out⟩, ⟨by (try simp only [hl152001_1]); (with_reducible repeat (first | refine qb3 ?_ _ | refine qb5 ?_ | refine qb4 ?_ _)); exact BK151.out⟩, ⟨by (try simp only [hl152001_1]); (with_reducible repeat (first | refine qb3 ?_ _ | refine qb5 ?_ | refine qb4 ?_ _)); exact BK154.out⟩, ⟨by repeat (first | (with_reducible first | exact HB.out | apply qw1 | apply qw2 | apply qw3 | refine qw4 ?_ GE147.out | refine qw4 ?_ GE151.out | refine qw4 ?_ GE154.out) | exact HB.out)⟩⟩
         ·rw [if_neg c35] at H
          have c35b0 : (t159 == 20) = false := beq_eq_false_iff_ne.mpr c35
          have c35b1 : (t159 != 20) = true := bne_iff_ne.mpr c35
          (first | rw [c35b0] | (simp only [i64_w, i32_w]; rw [c35b0]) | skip)
          have H' := qam H
          clear H
          go_wp2
          go_meet
          case rel => exact ⟨_, (false), (by first | rfl | (simp; done) | (simp [*]; done)), H', ⟨by have := HK1.out; first | omega | exact Nat.le_refl _⟩, ⟨by (try simp only [hl152001_1]); (with_reducible repeat (first | apply qk1 | apply qk2 | apply qk3)); exact HO_152001.out⟩, ⟨by (try simp only [hl152001_1]); (with_reducible repeat (first | refine qb3 ?_ _ | refine qb5 ?_ | refine qb4 ?_ _)); exact BK147.out⟩, ⟨by (try simp only [hl152001_1]); (with_reducible repeat (first | refine qb3 ?_ _ | refine qb5 ?_ | refine qb4 ?_ _)); exact BK151.out⟩, ⟨by (try simp only [hl152001_1]); (with_reducible repeat (first | refine qb3 ?_ _ | refine qb5 ?_ | refine qb4 ?_ _)); exact BK154.out⟩, ⟨by repeat (first | (with_reducible first | exact HB.out | apply qw1 | apply qw2 | apply qw3 | refine qw4 ?_ GE147.out | refine qw4 ?_ GE151.out | refine qw4 ?_ GE154.out) | exact HB.out)⟩⟩
        case rest =>
         clear HC26
         try clear c1
         try clear p1
         try clear q1
         try clear hx1
         try clear c2
         try clear p2
         try clear c3
         try clear q3
         try clear c4
         try clear p6
         try clear c9
         try clear c11
         try clear c14
         try clear c15
         try clear p15
         try clear q15
         try clear hx15
         try clear c19
         try clear c19b0
         try clear c20
         try clear c20b0
         try clear c21
         try clear c21b0
         try clear c23
         try clear c23b0
         try clear c23b1
         try clear c24
         try clear c24b0
         try clear c24b1
         try clear c28
         try clear c29
         try clear q33
         try clear c35
         try clear c35b0
         try clear c35b1
         try clear c36
         try clear c36b0
         try clear c36b1
         try clear c37
         try clear c38
         try clear c41
         try clear c42
         try clear c44
         try clear hcz16_0
         try clear hcz16_1
         try clear hcz16_2
         try clear hcz18_0
         try clear hcz18_1
         try clear hcz18_2
         try clear hcz30_0
         try clear hcz30_1
         try clear hcz30_2
         try clear hcz30_3
         try clear hcz39_0
         try clear hcz39_1
         try clear hcz39_2
         try clear hcz39_3
         try clear hcz43_0
         try clear hcz43_1
         try clear hcz43_2
         try clear hcz43_3
         try clear hcz45_0
         try clear hcz45_1
         try clear hcz45_2
         try clear hfz16_0
         try clear hfz16_1
         try clear hfz16_2
         try clear hfz18_0
         try clear hfz18_1
         try clear hfz18_2
         try clear hfz30_0
         try clear hfz30_1
         try clear hfz30_2
         try clear hfz30_3
         try clear hfz39_0
         try clear hfz39_1
         try clear hfz39_2
         try clear hfz39_3
         try clear hfz43_0
         try clear hfz43_1
         try clear hfz43_2
         try clear hfz43_3
         try clear hfz45_0
         try clear hfz45_1
         try clear hfz45_2
         try clear hx153_0
         try clear hx153_1
         try clear hx153_2
         try clear hx153_3
         try clear p153
         try clear p2
         try clear q153
         try clear q33
         obtain ⟨kq, x45_25, rfl, HA, HJ25, HO_152001, BK147, BK151, BK154, HB⟩ := hcut
         cases kq with
         | zero => exact absurd HA.out (by simp [super_unsorted.j1])
         | succ kj25 =>
          have H := HA.out
          clear HA
          simp only [super_unsorted.j1] at H
          have HC47 := qam H
          clear H
          go_upto_if 45 with (fail)
          go_cut [6] (fun v6 wc => ∃ (kq : Nat) (x6_46 : Int), v6 = .int .i64 x6_46 ∧ Aside0 (super_unsorted.j2 kq x6_46 l0_1 (l0_1.length : Int) x19_1 l0_0 l0_1 a0_2 l0_0 t152 0 = some r) ∧ Aside0 (kq ≤ kj25) ∧ Aside0 (Kd.R k32 32 wc w.heap.size (fun k_ => k_ ≠ gb154) (.slice Ao10 t152.length co10) t152) ∧ Aside0 (wc.heap[gb147]? = some (.cells #[(.slice A0_0 l0_0.length c0_0), (.slice (some ad153) l0_1.length c0_1), .int .i64 a0_2] 25 (0, 0))) ∧ Aside0 (wc.heap[gb151]? = some (.cells #[(.slice A0_0 l0_0.length c0_0), (.slice Ao10 t152.length co10), .int .i64 0] 25 (0, 0))) ∧ Aside0 (wc.heap[gb154]? = some (.cells #[.int .i64 ((rd_T32 l0_1 x19_1).f0), .int .i64 ((rd_T32 l0_1 x19_1).f1), .int .i64 ((rd_T32 l0_1 x19_1).f2), .int .i64 ((rd_T32 l0_1 x19_1).f3)] 32 (0, 0))) ∧ Aside0 (Below w.heap.size w wc))
          case first =>
           have H := HC47.out
           clear HC47
           by_cases c48 : x45_25 = true
           ·subst c48
            have H1 : (super_unsorted.j2 kj25 0 l0_1 (l0_1.length : Int) x19_1 l0_0 l0_1 a0_2 l0_0 t152 0) = some r := by rw [if_pos rfl] at H; exact H
            clear H
            have H := H1
            clear H1
            have H' := qam H
            clear H
            go_wp2
            go_meet
            case rel => exact ⟨_, (0), (by first | rfl | (simp; done) | (simp [*]; done)), H', ⟨by have := HK1.out; have := HJ25.out; first | omega | exact Nat.le_refl _⟩, ⟨by (try simp only [hl152001_1]); (with_reducible repeat (first | apply qk1 | apply qk2 | apply qk3)); exact HO_152001.out⟩, ⟨by (try simp only [hl152001_1]); (with_reducible repeat (first | refine qb3 ?_ _ | refine qb5 ?_ | refine qb4 ?_ _)); exact BK147.out⟩, ⟨by (try simp only [hl152001_1]); (with_reducible repeat (first | refine qb3 ?_ _ | refine qb5 ?_ | refine qb4 ?_ _)); exact BK151.out⟩, ⟨by (try simp only [hl152001_1]); (with_reducible repeat (first | refine qb3 ?_ _ | refine qb5 ?_ | refine qb4 ?_ _)); exact BK154.out⟩, ⟨by repeat (first | (with_reducible first | exact HB.out | apply qw1 | apply qw2 | apply qw3 | refine qw4 ?_ GE147.out | refine qw4 ?_ GE151.out | refine qw4 ?_ GE154.out) | exact HB.out)⟩⟩
           ·replace c48 := Bool.eq_false_iff.mpr c48
            subst c48
            have H1 : (super_unsorted.j2 kj25 t159 l0_1 (l0_1.length : Int) x19_1 l0_0 l0_1 a0_2 l0_0 t152 0) = some r := by rw [if_neg (show ¬ (false = true) by decide)] at H; exact H
            clear H
            have H := H1
            clear H1
            have H' := qam H
            clear H
            go_wp2
            go_meet
            case rel => exact ⟨_, (t159), (by first | rfl | (simp; done) | (simp [*]; done)), H', ⟨by have := HK1.out; have := HJ25.out; first | omega | exact Nat.le_refl _⟩, ⟨by (try simp only [hl152001_1]); (with_reducible repeat (first | apply qk1 | apply qk2 | apply qk3)); exact HO_152001.out⟩, ⟨by (try simp only [hl152001_1]); (with_reducible repeat (first | refine qb3 ?_ _ | refine qb5 ?_ | refine qb4 ?_ _)); exact BK147.out⟩, ⟨by (try simp only [hl152001_1]); (with_reducible repeat (first | refine qb3 ?_ _ | refine qb5 ?_ | refine qb4 ?_ _)); exact BK151.out⟩, ⟨by (try simp only [hl152001_1]); (with_reducible repeat (first | refine qb3 ?_ _ | refine qb5 ?_ | refine qb4 ?_ _)); exact BK154.out⟩, ⟨by repeat (first | (with_reducible first | exact HB.out | apply qw1 | apply qw2 | apply qw3 | refine qw4 ?_ GE147.out | refine qw4 ?_ GE151.out | refine qw4 ?_ GE154.out) | exact HB.out)⟩⟩
          case rest =>
           clear HC47
           try clear c1
           try clear p1
           try clear q1
           try clear hx1
           try clear c2
           try clear p2
           try clear c3
           try clear q3
           try clear c4
           try clear p6
           try clear c9
           try clear c11
           try clear c14
           try clear c15
           try clear p15
           try clear q15
           try clear hx15
           try clear c19
           try clear c19b0
           try clear c20
           try clear c20b0
           try clear c21
           try clear c21b0
           try clear c23
           try clear c23b0
           try clear c23b1
           try clear c24
           try clear c24b0
           try clear c24b1
           try clear c28
           try clear c29
           try clear q33
           try clear c35
           try clear c35b0
           try clear c35b1
           try clear c36
           try clear c36b0
           try clear c36b1
           try clear c37
           try clear c38
           try clear c41
           try clear c42
           try clear c44
           try clear c48
           try clear hcz16_0
           try clear hcz16_1
           try clear hcz16_2
           try clear hcz18_0
           try clear hcz18_1
           try clear hcz18_2
           try clear hcz30_0
           try clear hcz30_1
           try clear hcz30_2
           try clear hcz30_3
           try clear hcz39_0
           try clear hcz39_1
           try clear hcz39_2
           try clear hcz39_3
           try clear hcz43_0
           try clear hcz43_1
           try clear hcz43_2
           try clear hcz43_3
           try clear hcz45_0
           try clear hcz45_1
           try clear hcz45_2
           try clear hfz16_0
           try clear hfz16_1
           try clear hfz16_2
           try clear hfz18_0
           try clear hfz18_1
           try clear hfz18_2
           try clear hfz30_0
           try clear hfz30_1
           try clear hfz30_2
           try clear hfz30_3
           try clear hfz39_0
           try clear hfz39_1
           try clear hfz39_2
           try clear hfz39_3
           try clear hfz43_0
           try clear hfz43_1
           try clear hfz43_2
           try clear hfz43_3
           try clear hfz45_0
           try clear hfz45_1
           try clear hfz45_2
           try clear hx153_0
           try clear hx153_1
           try clear hx153_2
           try clear hx153_3
           try clear p1
           try clear p15
           try clear p153
           try clear p2
           try clear p6
           try clear q1
           try clear q15
           try clear q153
           try clear q3
           try clear q33
           obtain ⟨kq, x6_46, rfl, HA, HJ46, HO_152001, BK147, BK151, BK154, HB⟩ := hcut
           cases kq with
           | zero => exact absurd HA.out (by simp [super_unsorted.j2])
           | succ kj46 =>
            have H := HA.out
            clear HA
            simp only [super_unsorted.j2] at H
            by_cases c49 : x6_46 = 0
            ·rw [if_pos c49] at H
             have c49b0 : (x6_46 == 0) = true := beq_iff_eq.mpr c49
             have c49b1 : (x6_46 != 0) = false := bne_eq_false_iff_eq.mpr c49
             clear c49
             have H' := qam H
             clear H
             go_wp2
             (try simp only [← hl152001_1])
             go_roundg kj46
             case measure => have := HK1.out; have := HJ25.out; have := HJ46.out; omega
             case rel => exact ⟨(wrap64 (x19_1 + 1)), (by first | rfl | (simp; done) | (simp [*]; done)), H', ⟨by have := HK1.out; have := HJ25.out; have := HJ46.out; omega⟩, ⟨by (try simp only [hl152001_1]); (with_reducible repeat (first | apply qk1 | apply qk2 | apply qk3)); exact Kd.R_mono HO_152001.out (fun _ hk => trivial)⟩, ⟨by (try simp only [hl152001_1]); (with_reducible repeat (first | refine qb3 ?_ _ | refine qb5 ?_ | refine qb4 ?_ _)); exact BK147.out⟩, ⟨by (try simp only [hl152001_1]); (with_reducible repeat (first | refine qb3 ?_ _ | refine qb5 ?_ | refine qb4 ?_ _)); exact BK151.out⟩, ⟨by repeat (first | (with_reducible first | exact HB.out | apply qw1 | apply qw2 | apply qw3 | refine qw4 ?_ GE147.out | refine qw4 ?_ GE151.out | refine qw4 ?_ GE154.out) | exact HB.out)⟩⟩
            ·rw [if_neg c49] at H
             have c49b0 : (x6_46 == 0) = false := beq_eq_false_iff_ne.mpr c49
             have c49b1 : (x6_46 != 0) = true := bne_iff_ne.mpr c49
             obtain rfl := Option.some.inj H
             go_wp2
             go_ret
             exact ⟨by first | rfl | (simp [errW_none, errW_some] <;> rfl) | (simp only [← hji22]; first | rfl | (simp [errW_none, errW_some] <;> rfl)) | (simp [*, errW_none, errW_some] <;> rfl), by repeat (first | (with_reducible first | exact HB.out | apply qw1 | apply qw2 | apply qw3 | refine qw4 ?_ GE147.out | refine qw4 ?_ GE151.out | refine qw4 ?_ GE154.out) | exact HB.out)⟩
       ·rw [if_neg c24] at H
        exact absurd H (by simp)
      ·rw [if_neg c23] at H
       exact absurd H (by simp)
     ·rw [if_neg c21] at H
      exact absurd H (by simp)
    ·rw [if_neg c20] at H
     exact absurd H (by simp)
   ·rw [if_neg c19] at H
    have c19b0 : decide (x19_1 < (l0_1.length : Int)) = false := decide_eq_false c19
    clear c19
    obtain rfl := Option.some.inj H
    go_wp2
    go_ret
    exact ⟨by first | rfl | (simp [errW_none, errW_some] <;> rfl) | (simp [*, errW_none, errW_some] <;> rfl), by repeat (first | (with_reducible first | exact HB.out | apply qw1 | apply qw2 | apply qw3 | refine qw4 ?_ GE147.out | refine qw4 ?_ GE151.out) | exact HB.out)⟩

end Go.Proofs.Ytflpelbhalndcaa.QV
