/- super.checkNodes, for every row of at most 1000000 nodes whose Func is an int: the error that it returns. -/
import Derived.Test.YtflpelbhalndcaaQVg2
import Derived.Deep.DeepCutAuto
import Derived.Maps.OwnOps
import Derived.Maps.OwnSet
import Derived.Maps.RangeWalk
namespace Go.Proofs.Ytflpelbhalndcaa.QV
open Go.RowKit Go.Shelf Go.Lib Go.Sort Go.Maps Go.Proofs.YtflpelbhalndcaaW.PrintWords Go.Proofs.YtflpelbhalndcaaW.PrintLast Go.Proofs.YtflpelbhalndcaaW.PrintMore
open Go.Proofs.Ytflpelbhalndcaa.Cmp Go.Proofs.Ytflpelbhalndcaa.Bridge
set_option linter.unusedVariables false
set_option linter.unusedSimpArgs false

theorem law3 : Keyed Try.prog 3 := int_keyed Try.underlying3
theorem zero3 (w : World) : (zeroValue 3).run Try.prog w = .ok (.int .i64 0) w := by kernel_rfl
theorem isAgg35 (w : World) : (isAgg 35).run Try.prog w = .ok true w := by kernel_rfl
theorem sizeOf35 (w : World) : (Go.sizeOf 35).run Try.prog w = .ok 3 w := by kernel_rfl

theorem cell35 {w : World} {b o n : Nat} {l : List S35} (h : Kd.C k35 w (some ⟨b, o, none⟩) n l) (i : Nat) (hi : i < n) :
    w.cell? ⟨b, o + i * 3, none⟩ = some (.int .i64 (l.getD i z35).f0) ∧ w.cell? ⟨b, o + i * 3 + 1, none⟩ = some (.int .i64 (l.getD i z35).f1) ∧ w.cell? ⟨b, o + i * 3 + 2, none⟩ = some (.int .i64 (l.getD i z35).f2) := by
  have hl : i < l.length := by have := h.1; omega
  obtain ⟨ad, e, hc⟩ := h.2.2 (by omega)
  obtain ⟨c, hcl, hK, hcell⟩ := hc i _ (List.getElem?_eq_getElem hl)
  injection e with e
  subst e
  have hcs := k35_open hK
  have e2 : l.getD i z35 = l[i] := by rw [List.getD_eq_getElem?_getD, List.getElem?_eq_getElem hl]; rfl
  rw [e2]
  have hh : ∀ (j : Nat) v, c[j]? = some v → w.cell? ⟨b, o + i * 3 + j, none⟩ = some v := by
    intro j v hj
    have h1 := hcell j v hj
    rw [addN, show o + (i * k35.sz + j) = o + i * 3 + j from (Nat.add_assoc o (i * 3) j).symm] at h1
    exact h1
  exact ⟨hh 0 _ (by rw [hcs]; rfl), hh 1 _ (by rw [hcs]; rfl), hh 2 _ (by rw [hcs]; rfl)⟩

def cf35 (x y : S35) : Int := orI [cmpI x.f0 y.f0, cmpI x.f1 y.f1, cmpI x.f2 y.f2]
/-- The error of one node alone; 0: none. -/
def nodeErr (x : S35) : Int := if x.f1 < 1 ∨ 4 < x.f1 then 12 else if x.f0 < 0 ∨ (x.f1 = 2 ∧ x.f2 < 0) ∨ (x.f1 ≠ 2 ∧ x.f2 ≠ -1) then 4 else 0
/-- The first error of m nodes from place k on. -/
def scan (l : List S35) : Nat → Nat → Int
  | 0, _ => 0
  | m + 1, k => if nodeErr (l.getD k z35) ≠ 0 then nodeErr (l.getD k z35) else if 0 < k ∧ 0 ≤ cf35 (l.getD (k - 1) z35) (l.getD k z35) then 13 else scan l m (k + 1)
/-- How many of the first k nodes are of function f and no instruction. -/
def cntN (l : List S35) (f : Int) : Nat → Nat
  | 0 => 0
  | k + 1 => cntN l f k + if (l.getD k z35).f0 = f ∧ (l.getD k z35).f1 ≠ 2 then 1 else 0
/-- What the map holds after k nodes. -/
def Holds35 {H : Type} (l : List S35) (k : Nat) (D : DataW H) : Prop :=
  ∀ f : Int, D.atKey (.int .i64 f) (.lit (.int .i64 0)) = .lit (.int .i64 (cntN l f k)) ∧ (Maps.has D (.int .i64 f) = true ↔ ∃ j, j < k ∧ (l.getD j z35).f0 = f)

theorem cntN_le (l : List S35) (f : Int) : ∀ k, cntN l f k ≤ k
  | 0 => Nat.le_refl _
  | k + 1 => by
    have := cntN_le l f k
    unfold cntN
    split <;> omega
theorem cnt_of {H : Type} {l : List S35} {k : Nat} {D : DataW H} {f c : Int} (h : D.atKey (.int .i64 f) (.lit (.int .i64 0)) = .lit (.int .i64 c)) (hh : Holds35 l k D) : c = (cntN l f k : Int) := by
  have h1 := (hh f).1
  rw [h] at h1
  injection h1 with h1
  injection h1
theorem cnt_next (l : List S35) (k : Nat) (x : S35) (hx : l.getD k z35 = x) : cntN l x.f0 (k + 1) = cntN l x.f0 k + if x.f1 ≠ 2 then 1 else 0 := by
  rw [cntN, hx]
  simp
theorem holds_step {H : Type} {l : List S35} {k : Nat} {D : DataW H} {x : S35} {u : Int} (h : Holds35 l k D) (hD : Maps.IsMap D) (hx : l.getD k z35 = x) (hu : u = (cntN l x.f0 (k + 1) : Int)) :
    Holds35 l (k + 1) (D.put (.int .i64 x.f0) (.lit (.int .i64 u))) := by
  intro f
  by_cases hf : f = x.f0
  · subst hf
    refine ⟨?_, ?_⟩
    · rw [Maps.atKey_put_same hD (show WideAt.IsKeyLit (.int .i64 _) from trivial), hu]
    · exact ⟨fun _ => ⟨k, Nat.lt_succ_self _, by rw [hx]⟩, fun _ => Maps.has_put_same hD (show WideAt.IsKeyLit (.int .i64 _) from trivial) _⟩
  · have hne : (Lit.int .i64 f) ≠ .int .i64 x.f0 := by simpa using hf
    refine ⟨?_, ?_⟩
    · rw [Maps.atKey_put_other hne, (h f).1, cntN, hx, if_neg (by intro h1; exact hf h1.1.symm)]
      simp
    · rw [Maps.has_put_other hne, (h f).2]
      constructor
      · rintro ⟨j, hj, e⟩; exact ⟨j, Nat.lt_succ_of_lt hj, e⟩
      · rintro ⟨j, hj, e⟩
        refine ⟨j, ?_, e⟩
        rcases Nat.lt_succ_iff_lt_or_eq.1 hj with h1 | h1
        · exact h1
        · subst h1; rw [hx] at e; exact absurd e.symm hf

set_option maxHeartbeats 16000000 in
set_option maxRecDepth 100000 in
theorem checkNodes_some {H : Type} (b o n c : Nat) (l : List S35) (w : World) (hr : Kd.C k35 w (some ⟨b, o, none⟩) n l) (hn : 0 < n) (hb : b < w.heap.size) (hn2 : n ≤ 1000000)
    (hw : ∀ x ∈ l, (Lit.int .i64 x.f0).wf = true) (R : Int) (hR : R = if scan l n 0 ≠ 0 then scan l n 0 else if l.all (fun x => cntN l x.f0 n == 3) then 0 else 1) :
    Calls Try.prog 108 #[.slice (some ⟨b, o, none⟩) n c] w fun e w' => e = .returned (.int .i64 R) ∧ Below w.heap.size w w' := by
  have HR := Aside0.mk hR
  clear hR
  have mixed : Try.prog.follows .mixedOrders = true := by kernel_rfl
  have hnl := Aside0.mk (show l.length = n from hr.1)
  have CC := Aside0.mk (cell35 hr)
  have hmm := @run_makeMap Try.prog
  have HW := Aside0.mk hw
  clear hr hw
  go_enter Try.func108, Try.ntmps108
  go_wp2
  go_loopg [11] n (fun g1 vi wr => ∃ (k : Nat) (D : DataW H), vi = .int .i64 k ∧ k ≤ n ∧ n - k ≤ g1 ∧ wr.ownsMap Try.prog 3 (plainElem Try.prog 3) w.heap.size k D ∧ Below w.heap.size w wr ∧ w.heap.size < wr.heap.size ∧ Hid (Holds35 l k D ∧ scan l n 0 = scan l (n - k) k))
  case atStart => exact ⟨0, _, rfl, Nat.zero_le _, by omega, World.ownsMap_made _ _ _ _, (Below.refl _ _).alloc (Nat.le_refl _) _, by simp, ⟨fun f => ⟨by simp [cntN, DataW.atKey], by simp [Maps.has]⟩, rfl⟩⟩
  case round =>
    obtain ⟨k, D, rfl, hk, hg, hown, hB, hsz, HS⟩ := hrel
    by_cases hkn : k < n
    · have hc0 := (hB.cell (p := ⟨b, o + k * 3, none⟩) hb).trans (CC.out k hkn).1
      have hc1 := (hB.cell (p := ⟨b, o + k * 3 + 1, none⟩) hb).trans (CC.out k hkn).2.1
      have hc2 := (hB.cell (p := ⟨b, o + k * 3 + 2, none⟩) hb).trans (CC.out k hkn).2.2
      generalize hx : l.getD k z35 = x at hc0 hc1 hc2
      have HX := Aside0.mk hx
      have HO := Aside0.mk hown
      have HB := Aside0.mk hB
      clear hx hown hB hmm
      have hkz : (k : Int) < (n : Int) := by omega
      go_upto_region 5 with (fail)
      have q0 : (wr.alloc (.cells #[.int .i64 x.f0, .int .i64 x.f1, .int .i64 x.f2] 35)).cell? ⟨wr.heap.size, 0, none⟩ = some (.int .i64 x.f0) := by go_simp
      have q1 : (wr.alloc (.cells #[.int .i64 x.f0, .int .i64 x.f1, .int .i64 x.f2] 35)).cell? ⟨wr.heap.size, 1, none⟩ = some (.int .i64 x.f1) := by go_simp
      have q2 : (wr.alloc (.cells #[.int .i64 x.f0, .int .i64 x.f1, .int .i64 x.f2] 35)).cell? ⟨wr.heap.size, 2, none⟩ = some (.int .i64 x.f2) := by go_simp
      have HO4 := Aside0.mk (HO.out.alloc (.cells #[.int .i64 x.f0, .int .i64 x.f1, .int .i64 x.f2] 35))
      have HB4 := Aside0.mk (HB.out.alloc (Nat.le_of_lt hsz) (.cells #[.int .i64 x.f0, .int .i64 x.f1, .int .i64 x.f2] 35))
      have hp4 : w.heap.size < wr.heap.size := hsz
      have hz4 : wr.heap.size < (wr.alloc (.cells #[.int .i64 x.f0, .int .i64 x.f1, .int .i64 x.f2] 35)).heap.size := by simp
      clear hc0 hc1 hc2
      generalize (wr.alloc (.cells #[.int .i64 x.f0, .int .i64 x.f1, .int .i64 x.f2] 35)) = w4 at q0 q1 q2 HO4 HB4 hz4 ⊢
      clear HO HB hsz
      generalize wr.heap.size = p at q0 q1 q2 hp4 hz4 ⊢
      clear wr
      have SC := Aside0.mk (show scan l n 0 = if nodeErr x ≠ 0 then nodeErr x else if 0 < k ∧ 0 ≤ cf35 (l.getD (k - 1) z35) x then 13 else scan l (n - (k + 1)) (k + 1) by
        have e : n - k = (n - (k + 1)) + 1 := by omega
        rw [HS.out.2, e, scan, HX.out])
      have fin : ∀ v : Int, v ≠ 0 → scan l n 0 = v → R = v := fun v h1 h2 => by rw [HR.out, h2, if_pos h1]
      have FIN := Aside0.mk fin
      clear fin
      have hwx : (Lit.int .i64 x.f0).wf = true := by
        have hkl : k < l.length := by rw [hnl.out]; exact hkn
        have e2 : l.getD k z35 = l[k] := by rw [List.getD_eq_getElem?_getD, List.getElem?_eq_getElem hkl]; rfl
        rw [← HX.out, e2]
        exact HW.out _ (List.getElem_mem hkl)
      by_cases k1 : x.f1 < 1
      · go_wp2_with fail
        go_ret
        refine ⟨?_, HB4.out⟩
        rw [FIN.out 12 (by decide) (by rw [SC.out, show nodeErr x = 12 from if_pos (Or.inl k1)]; rfl)]
        rfl
      by_cases k2 : 4 < x.f1
      · go_wp2_with fail
        go_ret
        refine ⟨?_, HB4.out⟩
        rw [FIN.out 12 (by decide) (by rw [SC.out, show nodeErr x = 12 from if_pos (Or.inr k2)]; rfl)]
        rfl
      by_cases k3 : x.f0 < 0
      · go_wp2_with fail
        go_ret
        refine ⟨?_, HB4.out⟩
        rw [FIN.out 4 (by decide) (by rw [SC.out, show nodeErr x = 4 from (if_neg (by omega)).trans (if_pos (by omega))]; rfl)]
        rfl
      by_cases k4 : x.f1 = 2
      · by_cases k5 : x.f2 < 0
        · go_wp2_with fail
          go_ret
          refine ⟨?_, HB4.out⟩
          rw [FIN.out 4 (by decide) (by rw [SC.out, show nodeErr x = 4 from (if_neg (by omega)).trans (if_pos (by omega))]; rfl)]
          rfl
        have NE := Aside0.mk (show nodeErr x = 0 by unfold nodeErr; rw [if_neg (by omega), if_neg (by omega)])
        go_upto_region 9 with (fail)
        by_cases hk0 : k = 0
        · have hkd : decide ((k : Int) > 0) = false := decide_eq_false (by omega)
          have hkz0 : ¬ (0 : Int) < (k : Int) := by omega
          have HO5 := Aside0.mk (HO4.out.drew)
          have HB5 := Aside0.mk (HB4.out.drew)
          have r0 : w4.drew.cell? ⟨p, 0, none⟩ = some (.int .i64 x.f0) := q0
          have r1 : w4.drew.cell? ⟨p, 1, none⟩ = some (.int .i64 x.f1) := q1
          have r2 : w4.drew.cell? ⟨p, 2, none⟩ = some (.int .i64 x.f2) := q2
          have hs5 : w.heap.size < w4.drew.heap.size := Nat.lt_trans hp4 hz4
          go_big_region_o
          clear q0 q1 q2 HO4 HB4
          generalize w4.drew = w5 at r0 r1 r2 HO5 HB5 hs5 ⊢
          have SC2 := Aside0.mk (show scan l n 0 = scan l (n - (k + 1)) (k + 1) by rw [SC.out, NE.out]; simp [hk0])
          have hown := HO5.out
          have hkey : keyOf Try.prog 3 (.int .i64 x.f0) = some (.int .i64 x.f0) := keyOf_int_mk Try.underlying3 hwx
          have hkm : k ≤ 1000000 := by omega
          go_wp2_with (first
            | (at_lookup; refine wpList_lookup_own_int _ rfl _ _ 155 rfl 3 3 .i64 law3 Try.underlying155 Try.underlying3 (zero3 _) w.heap.size (k) _ rfl hown _ _ rfl hkey ?_; intro c hat hwc)
            | (at_mapUpdate; refine wpList_mapUpdate_own _ rfl _ _ _ 155 rfl 3 3 law3 Try.underlying155 _ w.heap.size (k) _ rfl hown (by unfold maxLen; omega) _ _ _ rfl rfl hkey _ [] (plainElem_int Try.underlying3 (by first | exact wrap64_wf _ | assumption)) ?_; intro w6 hown6 hgrow6)
            | go_in)
          have hc0 := Aside0.mk (show c = (cntN l x.f0 (k) : Int) from cnt_of hat HS.out.1)
          have hle := cntN_le l x.f0 (k)
          have HU := Aside0.mk (cnt_next l (k) x HX.out)
          have HD := Aside0.mk (hown.tidy law3).isMap
          go_roundg (n - (k + 1))
          case measure => omega
          case rel =>
            refine ⟨k + 1, _, by go_num, by omega, Nat.le_refl _, hown6, HB5.out.grown hgrow6 HB5.out.size (fun j hj => by cases hj; exact Nat.le_refl _), Nat.lt_of_lt_of_le hs5 hgrow6.size, ⟨holds_step HS.out.1 HD.out HX.out ?_, SC2.out⟩⟩
            rw [HU.out, if_neg (by omega), hc0.out]
            unfold wrap64
            omega
        · obtain ⟨j, rfl⟩ : ∃ j, k = j + 1 := ⟨k - 1, by omega⟩
          have hkd : decide (((j + 1 : Nat) : Int) > 0) = true := decide_eq_true (by omega)
          have hj0 : (0 : Int) < (j : Int) + 1 := by omega
          have hj1 : (j : Int) < (n : Int) := by omega
          have hwj : IntKind.i64.wrap (j : Int) = (j : Int) := by rw [IntKind.wrap_i64]; omega
          have u22 := run_underlying Try.underlying22
          have aE := isAgg35
          have zE := sizeOf35
          have y0 := (HB4.out.cell (p := ⟨b, o + j * 3, none⟩) hb).trans (CC.out j (by omega)).1
          have y1 := (HB4.out.cell (p := ⟨b, o + j * 3 + 1, none⟩) hb).trans (CC.out j (by omega)).2.1
          have y2 := (HB4.out.cell (p := ⟨b, o + j * 3 + 2, none⟩) hb).trans (CC.out j (by omega)).2.2
          generalize hy : l.getD j z35 = y at y0 y1 y2
          have HY := Aside0.mk hy
          clear hy
          have hbw : b < w4.heap.size := Nat.lt_trans hb (Nat.lt_trans hp4 hz4)
          have yy0 := fun m os => cell_grown (w := w4) (a := ⟨b, o + j * 3, none⟩) hbw y0 m os
          have yy1 := fun m os => cell_grown (w := w4) (a := ⟨b, o + j * 3 + 1, none⟩) hbw y1 m os
          have yy2 := fun m os => cell_grown (w := w4) (a := ⟨b, o + j * 3 + 2, none⟩) hbw y2 m os
          have qq0 := fun m os => cell_grown (w := w4) (a := ⟨p, 0, none⟩) hz4 q0 m os
          have qq1 := fun m os => cell_grown (w := w4) (a := ⟨p, 1, none⟩) hz4 q1 m os
          have qq2 := fun m os => cell_grown (w := w4) (a := ⟨p, 2, none⟩) hz4 q2 m os
          have hcg : ∀ m os, Calls Try.prog 147 #[.agg #[.int .i64 y.f0, .int .i64 y.f1, .int .i64 y.f2], .agg #[.int .i64 x.f0, .int .i64 x.f1, .int .i64 x.f2]] (grow (w4.drewN m) os) fun e w' => e = .returned (.int .i64 (orI [cmpI y.f0 x.f0, cmpI y.f1 x.f1, cmpI y.f2 x.f2])) ∧ ∃ q' os'', w' = grow ((grow (w4.drewN m) os).drewN q') os'' := fun m os => (nodes y.f0 y.f1 y.f2 x.f0 x.f1 x.f2 _).mono fun e w' h => ⟨h.1, grow_of_below h.2.1 h.2.2⟩
          have CF := Aside0.mk (show cf35 y x = orI [cmpI y.f0 x.f0, cmpI y.f1 x.f1, cmpI y.f2 x.f2] from rfl)
          generalize orI [cmpI y.f0 x.f0, cmpI y.f1 x.f1, cmpI y.f2 x.f2] = v at hcg CF
          have SC1 := Aside0.mk (show scan l n 0 = if 0 ≤ v then 13 else scan l (n - (j + 1 + 1)) (j + 1 + 1) by rw [SC.out, NE.out, ← CF.out, Nat.add_sub_cancel, HY.out]; simp)
          clear y0 y1 y2
          simp only [k4] at hcg
          by_cases hv : 0 ≤ v
          · have hvd : decide (v ≥ 0) = true := decide_eq_true hv
            go_quiet_grown (first | (go_at_call 147; refine Calls.grown_of (hcg _ _)))
            go_wp2_with fail
            go_ret
            refine ⟨?_, HB4.out.trans ((below_grow nq osq).mono (Nat.le_of_lt (Nat.lt_trans hp4 hz4)))⟩
            rw [FIN.out 13 (by decide) (by rw [SC1.out, if_pos hv])]
            rfl
          · have hvd : decide (v ≥ 0) = false := decide_eq_false (by omega)
            have SC2 := Aside0.mk (show scan l n 0 = scan l (n - (j + 1 + 1)) (j + 1 + 1) by rw [SC1.out, if_neg hv])
            go_quiet_grown (first | (go_at_call 147; refine Calls.grown_of (hcg _ _)))
            have hgb := below_grow (w := w4) nq osq
            have r0 := qq0 nq osq
            have r1 := qq1 nq osq
            have r2 := qq2 nq osq
            have HO5 := Aside0.mk (HO4.out.kept (row := none) ⟨hgb.os, hgb.tape, hgb.output, hgb.size, fun i hi _ => hgb.block i hi⟩ (by simp))
            have HB5 := Aside0.mk (HB4.out.trans (hgb.mono (Nat.le_of_lt (Nat.lt_trans hp4 hz4))))
            have hs5 : w.heap.size < (grow (w4.drewN nq) osq).heap.size := Nat.lt_of_lt_of_le (Nat.lt_trans hp4 hz4) hgb.size
            clear q0 q1 q2 HO4 HB4 hgb yy0 yy1 yy2 qq0 qq1 qq2 hcg
            generalize grow (w4.drewN nq) osq = w5 at r0 r1 r2 HO5 HB5 hs5 ⊢
            have hown := HO5.out
            have hkey : keyOf Try.prog 3 (.int .i64 x.f0) = some (.int .i64 x.f0) := keyOf_int_mk Try.underlying3 hwx
            have hkm : j + 1 ≤ 1000000 := by omega
            go_wp2_with (first
              | (at_lookup; refine wpList_lookup_own_int _ rfl _ _ 155 rfl 3 3 .i64 law3 Try.underlying155 Try.underlying3 (zero3 _) w.heap.size (j + 1) _ rfl hown _ _ rfl hkey ?_; intro c hat hwc)
              | (at_mapUpdate; refine wpList_mapUpdate_own _ rfl _ _ _ 155 rfl 3 3 law3 Try.underlying155 _ w.heap.size (j + 1) _ rfl hown (by unfold maxLen; omega) _ _ _ rfl rfl hkey _ [] (plainElem_int Try.underlying3 (by first | exact wrap64_wf _ | assumption)) ?_; intro w6 hown6 hgrow6)
              | go_in)
            have hc0 := Aside0.mk (show c = (cntN l x.f0 (j + 1) : Int) from cnt_of hat HS.out.1)
            have hle := cntN_le l x.f0 (j + 1)
            have HU := Aside0.mk (cnt_next l (j + 1) x HX.out)
            have HD := Aside0.mk (hown.tidy law3).isMap
            go_roundg (n - (j + 1 + 1))
            case measure => omega
            case rel =>
              refine ⟨j + 1 + 1, _, by go_num, by omega, Nat.le_refl _, hown6, HB5.out.grown hgrow6 HB5.out.size (fun j hj => by cases hj; exact Nat.le_refl _), Nat.lt_of_lt_of_le hs5 hgrow6.size, ⟨holds_step HS.out.1 HD.out HX.out ?_, SC2.out⟩⟩
              rw [HU.out, if_neg (by omega), hc0.out]
              unfold wrap64
              omega
      · have b4 : (x.f1 == 2) = false := beq_eq_false_iff_ne.mpr k4
        have b4n : (x.f1 != 2) = true := bne_iff_ne.mpr k4
        by_cases k6n : ¬ x.f2 = -1
        · have b6 : (x.f2 != -1) = true := bne_iff_ne.mpr k6n
          go_wp2_with fail
          go_ret
          refine ⟨?_, HB4.out⟩
          rw [FIN.out 4 (by decide) (by rw [SC.out, show nodeErr x = 4 from (if_neg (by omega)).trans (if_pos (by omega))]; rfl)]
          rfl
        · have k6 : x.f2 = -1 := by omega
          clear k6n
          have NE := Aside0.mk (show nodeErr x = 0 by unfold nodeErr; rw [if_neg (by omega), if_neg (by omega)])
          go_upto_region 9 with (fail)
          by_cases hk0 : k = 0
          · have hkd : decide ((k : Int) > 0) = false := decide_eq_false (by omega)
            have hkz0 : ¬ (0 : Int) < (k : Int) := by omega
            have HO5 := Aside0.mk (HO4.out.drew)
            have HB5 := Aside0.mk (HB4.out.drew)
            have r0 : w4.drew.cell? ⟨p, 0, none⟩ = some (.int .i64 x.f0) := q0
            have r1 : w4.drew.cell? ⟨p, 1, none⟩ = some (.int .i64 x.f1) := q1
            have r2 : w4.drew.cell? ⟨p, 2, none⟩ = some (.int .i64 x.f2) := q2
            have hs5 : w.heap.size < w4.drew.heap.size := Nat.lt_trans hp4 hz4
            go_big_region_o
            clear q0 q1 q2 HO4 HB4
            generalize w4.drew = w5 at r0 r1 r2 HO5 HB5 hs5 ⊢
            have SC2 := Aside0.mk (show scan l n 0 = scan l (n - (k + 1)) (k + 1) by rw [SC.out, NE.out]; simp [hk0])
            have hown := HO5.out
            have hkey : keyOf Try.prog 3 (.int .i64 x.f0) = some (.int .i64 x.f0) := keyOf_int_mk Try.underlying3 hwx
            have hkm : k ≤ 1000000 := by omega
            go_wp2_with (first
              | (at_lookup; refine wpList_lookup_own_int _ rfl _ _ 155 rfl 3 3 .i64 law3 Try.underlying155 Try.underlying3 (zero3 _) w.heap.size (k) _ rfl hown _ _ rfl hkey ?_; intro c hat hwc)
              | (at_mapUpdate; refine wpList_mapUpdate_own _ rfl _ _ _ 155 rfl 3 3 law3 Try.underlying155 _ w.heap.size (k) _ rfl hown (by unfold maxLen; omega) _ _ _ rfl rfl hkey _ [] (plainElem_int Try.underlying3 (by first | exact wrap64_wf _ | assumption)) ?_; intro w6 hown6 hgrow6)
              | go_in)
            have hc0 := Aside0.mk (show c = (cntN l x.f0 (k) : Int) from cnt_of hat HS.out.1)
            have hle := cntN_le l x.f0 (k)
            have HU := Aside0.mk (cnt_next l (k) x HX.out)
            have HD := Aside0.mk (hown.tidy law3).isMap
            go_roundg (n - (k + 1))
            case measure => omega
            case rel =>
              refine ⟨k + 1, _, by go_num, by omega, Nat.le_refl _, hown6, HB5.out.grown hgrow6 HB5.out.size (fun j hj => by cases hj; exact Nat.le_refl _), Nat.lt_of_lt_of_le hs5 hgrow6.size, ⟨holds_step HS.out.1 HD.out HX.out ?_, SC2.out⟩⟩
              rw [HU.out, if_pos (by omega), hc0.out]
              unfold wrap64
              omega
          · obtain ⟨j, rfl⟩ : ∃ j, k = j + 1 := ⟨k - 1, by omega⟩
            have hkd : decide (((j + 1 : Nat) : Int) > 0) = true := decide_eq_true (by omega)
            have hj0 : (0 : Int) < (j : Int) + 1 := by omega
            have hj1 : (j : Int) < (n : Int) := by omega
            have hwj : IntKind.i64.wrap (j : Int) = (j : Int) := by rw [IntKind.wrap_i64]; omega
            have u22 := run_underlying Try.underlying22
            have aE := isAgg35
            have zE := sizeOf35
            have y0 := (HB4.out.cell (p := ⟨b, o + j * 3, none⟩) hb).trans (CC.out j (by omega)).1
            have y1 := (HB4.out.cell (p := ⟨b, o + j * 3 + 1, none⟩) hb).trans (CC.out j (by omega)).2.1
            have y2 := (HB4.out.cell (p := ⟨b, o + j * 3 + 2, none⟩) hb).trans (CC.out j (by omega)).2.2
            generalize hy : l.getD j z35 = y at y0 y1 y2
            have HY := Aside0.mk hy
            clear hy
            have hbw : b < w4.heap.size := Nat.lt_trans hb (Nat.lt_trans hp4 hz4)
            have yy0 := fun m os => cell_grown (w := w4) (a := ⟨b, o + j * 3, none⟩) hbw y0 m os
            have yy1 := fun m os => cell_grown (w := w4) (a := ⟨b, o + j * 3 + 1, none⟩) hbw y1 m os
            have yy2 := fun m os => cell_grown (w := w4) (a := ⟨b, o + j * 3 + 2, none⟩) hbw y2 m os
            have qq0 := fun m os => cell_grown (w := w4) (a := ⟨p, 0, none⟩) hz4 q0 m os
            have qq1 := fun m os => cell_grown (w := w4) (a := ⟨p, 1, none⟩) hz4 q1 m os
            have qq2 := fun m os => cell_grown (w := w4) (a := ⟨p, 2, none⟩) hz4 q2 m os
            have hcg : ∀ m os, Calls Try.prog 147 #[.agg #[.int .i64 y.f0, .int .i64 y.f1, .int .i64 y.f2], .agg #[.int .i64 x.f0, .int .i64 x.f1, .int .i64 x.f2]] (grow (w4.drewN m) os) fun e w' => e = .returned (.int .i64 (orI [cmpI y.f0 x.f0, cmpI y.f1 x.f1, cmpI y.f2 x.f2])) ∧ ∃ q' os'', w' = grow ((grow (w4.drewN m) os).drewN q') os'' := fun m os => (nodes y.f0 y.f1 y.f2 x.f0 x.f1 x.f2 _).mono fun e w' h => ⟨h.1, grow_of_below h.2.1 h.2.2⟩
            have CF := Aside0.mk (show cf35 y x = orI [cmpI y.f0 x.f0, cmpI y.f1 x.f1, cmpI y.f2 x.f2] from rfl)
            generalize orI [cmpI y.f0 x.f0, cmpI y.f1 x.f1, cmpI y.f2 x.f2] = v at hcg CF
            have SC1 := Aside0.mk (show scan l n 0 = if 0 ≤ v then 13 else scan l (n - (j + 1 + 1)) (j + 1 + 1) by rw [SC.out, NE.out, ← CF.out, Nat.add_sub_cancel, HY.out]; simp)
            clear y0 y1 y2
            simp only [k6] at hcg
            by_cases hv : 0 ≤ v
            · have hvd : decide (v ≥ 0) = true := decide_eq_true hv
              go_quiet_grown (first | (go_at_call 147; refine Calls.grown_of (hcg _ _)))
              go_wp2_with fail
              go_ret
              refine ⟨?_, HB4.out.trans ((below_grow nq osq).mono (Nat.le_of_lt (Nat.lt_trans hp4 hz4)))⟩
              rw [FIN.out 13 (by decide) (by rw [SC1.out, if_pos hv])]
              rfl
            · have hvd : decide (v ≥ 0) = false := decide_eq_false (by omega)
              have SC2 := Aside0.mk (show scan l n 0 = scan l (n - (j + 1 + 1)) (j + 1 + 1) by rw [SC1.out, if_neg hv])
              go_quiet_grown (first | (go_at_call 147; refine Calls.grown_of (hcg _ _)))
              have hgb := below_grow (w := w4) nq osq
              have r0 := qq0 nq osq
              have r1 := qq1 nq osq
              have r2 := qq2 nq osq
              have HO5 := Aside0.mk (HO4.out.kept (row := none) ⟨hgb.os, hgb.tape, hgb.output, hgb.size, fun i hi _ => hgb.block i hi⟩ (by simp))
              have HB5 := Aside0.mk (HB4.out.trans (hgb.mono (Nat.le_of_lt (Nat.lt_trans hp4 hz4))))
              have hs5 : w.heap.size < (grow (w4.drewN nq) osq).heap.size := Nat.lt_of_lt_of_le (Nat.lt_trans hp4 hz4) hgb.size
              clear q0 q1 q2 HO4 HB4 hgb yy0 yy1 yy2 qq0 qq1 qq2 hcg
              generalize grow (w4.drewN nq) osq = w5 at r0 r1 r2 HO5 HB5 hs5 ⊢
              have hown := HO5.out
              have hkey : keyOf Try.prog 3 (.int .i64 x.f0) = some (.int .i64 x.f0) := keyOf_int_mk Try.underlying3 hwx
              have hkm : j + 1 ≤ 1000000 := by omega
              go_wp2_with (first
                | (at_lookup; refine wpList_lookup_own_int _ rfl _ _ 155 rfl 3 3 .i64 law3 Try.underlying155 Try.underlying3 (zero3 _) w.heap.size (j + 1) _ rfl hown _ _ rfl hkey ?_; intro c hat hwc)
                | (at_mapUpdate; refine wpList_mapUpdate_own _ rfl _ _ _ 155 rfl 3 3 law3 Try.underlying155 _ w.heap.size (j + 1) _ rfl hown (by unfold maxLen; omega) _ _ _ rfl rfl hkey _ [] (plainElem_int Try.underlying3 (by first | exact wrap64_wf _ | assumption)) ?_; intro w6 hown6 hgrow6)
                | go_in)
              have hc0 := Aside0.mk (show c = (cntN l x.f0 (j + 1) : Int) from cnt_of hat HS.out.1)
              have hle := cntN_le l x.f0 (j + 1)
              have HU := Aside0.mk (cnt_next l (j + 1) x HX.out)
              have HD := Aside0.mk (hown.tidy law3).isMap
              go_roundg (n - (j + 1 + 1))
              case measure => omega
              case rel =>
                refine ⟨j + 1 + 1, _, by go_num, by omega, Nat.le_refl _, hown6, HB5.out.grown hgrow6 HB5.out.size (fun j hj => by cases hj; exact Nat.le_refl _), Nat.lt_of_lt_of_le hs5 hgrow6.size, ⟨holds_step HS.out.1 HD.out HX.out ?_, SC2.out⟩⟩
                rw [HU.out, if_pos (by omega), hc0.out]
                unfold wrap64
                omega
    · have hkn2 : k = n := by omega
      subst hkn2
      have HO := Aside0.mk hown
      have HB := Aside0.mk hB
      have HRR := Aside0.mk (show R = if l.all (fun x => cntN l x.f0 k == 3) then 0 else 1 by rw [HR.out, HS.out.2, Nat.sub_self, scan]; simp)
      clear hown hB hmm HR
      obtain ⟨wo, rfl⟩ : ∃ wo : World, wo = wr := ⟨_, rfl⟩
      go_wp2_with (first
        | (at_range; refine wpList_range_own _ rfl _ 155 rfl 3 3 law3 Try.underlying155 _ w.heap.size k _ rfl HO.out ?_; intro w0 hrg0 hg0 hs0)
        | go_in)
      go_frame
      have HG0 := Aside0.mk hrg0
      have HB0 := Aside0.mk (HB.out.grown hg0 HB.out.size (fun j hj => by cases hj))
      clear hrg0 hg0
      go_loopw [7] (fun _ wr2 => ∃ (left : Lit → Bool) (cnt : Nat), wr2.ranges Try.prog 3 (plainElem Try.prog 3) w.heap.size wo.heap.size k D left cnt ∧ Below w.heap.size w wr2 ∧ Hid (∀ f : Int, Maps.has D (.int .i64 f) = true → left (.int .i64 f) = false → cntN l f k = 3)) (fun _ wr2 => wr2.rangeLeft w.heap.size wo.heap.size)
      case atStart => exact ⟨_, _, HG0.out, HB0.out, fun f h1 h2 => by rw [h1] at h2; cases h2⟩
      case round =>
        obtain ⟨left, cnt, hrg, hB2, HL⟩ := hrel
        go_wp2_with (first
          | (at_next; refine wpList_next_ranges_ii _ rfl _ rfl 3 3 .i64 .i64 law3 Try.underlying3 Try.underlying3 w.heap.size wo.heap.size k _ _ _ rfl hrg ?_ ?_)
          | go_in)
        · intro _ hl0
          have HL0 := Aside0.mk hl0
          clear hl0
          go_wp2
          go_ret
          refine ⟨?_, hB2⟩
          have hall : l.all (fun x => cntN l x.f0 k == 3) = true := by
            rw [List.all_eq_true]
            intro x hx
            obtain ⟨j, hj, ej⟩ := List.getElem_of_mem hx
            have hjk : j < k := by rw [← hnl.out]; exact hj
            have e2 : (l.getD j z35) = x := by rw [List.getD_eq_getElem?_getD, List.getElem?_eq_getElem hj, ← ej]; rfl
            have := HL.out x.f0 (((HS.out.1 x.f0).2).2 ⟨j, hjk, by rw [e2]⟩) (HL0.out _)
            simp [this]
          rw [HRR.out, hall]
          rfl
        · intro x c w1 cnt1 hwx hwc hlx hat hrg1 hlt hg1 hs1 hen
          have hB3 := Aside0.mk (hB2.grown hg1 hB2.size (fun j hj => by cases hj; omega))
          have HAT := Aside0.mk hat
          have HRG1 := Aside0.mk hrg1
          have hcx := Aside0.mk (show c = (cntN l x k : Int) from cnt_of (hat _) HS.out.1)
          have hhas := Aside0.mk (Maps.has_true_of_atKey hat)
          clear hat hB2
          go_wp2
          · have hc3 : c ≠ 3 := by simpa using (by assumption : (c != 3) = true)
            go_ret
            refine ⟨?_, hB3.out⟩
            have hall : l.all (fun x => cntN l x.f0 k == 3) = false := by
              rw [Bool.eq_false_iff]
              intro ha
              rw [List.all_eq_true] at ha
              obtain ⟨j, hj, ej⟩ := ((HS.out.1 x).2).1 hhas.out
              have hjl : j < l.length := by rw [hnl.out]; exact hj
              have e2 : (l.getD j z35) = l[j] := by rw [List.getD_eq_getElem?_getD, List.getElem?_eq_getElem hjl]; rfl
              have := ha _ (List.getElem_mem hjl)
              rw [← e2, ej] at this
              have h3 : cntN l x k = 3 := by simpa using this
              exact hc3 (by rw [hcx.out, h3]; rfl)
            rw [HRR.out, hall]
            rfl
          · have hc3 : c = 3 := by simpa using (by assumption : (c != 3) = false)
            go_roundw
            case rel =>
              refine ⟨_, cnt1, HRG1.out, hB3.out, (show Hid _ from ?_)⟩
              show ∀ f : Int, _
              intro f h1 h2
              cases hlf : left (.int .i64 f) with
              | false => exact HL.out f h1 hlf
              | true =>
                rw [hlf] at h2
                have h4 : (Lit.int .i64 f).sameKey (.int .i64 x) = true := by simpa using h2
                have h5 : f = x := by
                  by_cases h6 : f = x
                  · exact h6
                  · exact absurd h4 (by rw [Maps.sameKey_ne (by simpa using h6)]; simp)
                subst h5
                have := hcx.out
                omega
            case measure => rw [hrg1.left_eq, hrg.left_eq]; exact hlt
end Go.Proofs.Ytflpelbhalndcaa.QV
