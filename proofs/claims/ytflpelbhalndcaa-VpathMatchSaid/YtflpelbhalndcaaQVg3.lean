/- slices.BinarySearchFunc of edges by From, for every row of edges that came in. No condition. -/
import Derived.Test.YtflpelbhalndcaaQVg2
namespace Go.Proofs.Ytflpelbhalndcaa.QV
open Go.RowKit Go.Shelf Go.Lib Go.Sort Go.Proofs.YtflpelbhalndcaaW.PrintWords Go.Proofs.YtflpelbhalndcaaW.PrintLast Go.Proofs.YtflpelbhalndcaaW.PrintMore
open Go.Proofs.Ytflpelbhalndcaa.Cmp Go.Proofs.Ytflpelbhalndcaa.Bridge
set_option linter.unusedVariables false
set_option linter.unusedSimpArgs false

theorem closure198 (x0 x1 x2 x3 y0 y1 y2 y3 : Int) (W : World) : Calls Try.prog 198 #[.agg #[.int .i64 x0, .int .i64 x1, .int .i64 x2, .int .i64 x3], .agg #[.int .i64 y0, .int .i64 y1, .int .i64 y2, .int .i64 y3]] W fun e w' => e = .returned (.int .i64 (cmpI x0 y0)) ∧ ∃ q os', w' = grow (W.drewN q) os' := by
  have hcon := fun W' => compare x0 y0 W'
  generalize cmpI x0 y0 = r at hcon ⊢
  go_enter Try.func198, Try.ntmps198
  go_wp2_with (go_at_call 88; refine (hcon _).mono ?_; rintro e w' ⟨rfl, rfl⟩)
  go_ret
  exact ⟨rfl, 0, _, by rw [alloc_eq_grow, alloc_eq_grow, grow_grow]; rfl⟩

/-- The place at which a binary search by From ends. -/
def bs : Nat → List S32 → Int → Nat → Nat → Nat
  | 0, _, _, i, _ => i
  | k + 1, l, key, i, j => if i < j then (if (l.getD ((i + j) / 2) z32).f0 < key then bs k l key ((i + j) / 2 + 1) j else bs k l key i ((i + j) / 2)) else i

theorem bs_stop (k : Nat) (l : List S32) (key : Int) (i j : Nat) (h : ¬ i < j) : bs k l key i j = i := by
  cases k with
  | zero => rfl
  | succ k => rw [bs, if_neg h]

theorem grow_class (w : World) (m : Nat) (os : Array Obj) (q : Nat) (os' : Array Obj) : grow ((grow (w.drewN m) os).drewN q) os' = grow (w.drewN (m + q)) (os ++ os') := by
  show grow (grow ((w.drewN m).drewN q) os) os' = _
  rw [grow_grow, World.drewN_drewN]

theorem mid (i j : Nat) (hi : i ≤ 9223372036854775807) (hj : j ≤ 9223372036854775807) : wrap64 (IntKind.u64.wrap (wrap64 ((i : Int) + (j : Int))) / 2) = (((i + j) / 2 : Nat) : Int) := by
  have h1 : IntKind.u64.wrap (wrap64 ((i : Int) + (j : Int))) = (i : Int) + (j : Int) := by
    have e : ∀ n, IntKind.u64.wrap n = n % 18446744073709551616 := fun n => by simp [IntKind.wrap, IntKind.bits, IntKind.signed]
    rw [e]
    unfold wrap64
    omega
  rw [h1]
  unfold wrap64
  omega

def bsOk (l : List S32) (key : Int) (i : Nat) : Bool := decide (i < l.length) && (cmpI (l.getD i z32).f0 key == 0)

set_option maxHeartbeats 4000000 in
theorem bsearch_any (A : Option Addr) (n c : Nat) (l : List S32) (a0 a1 a2 a3 : Int) (w : World) (hr : Kd.C k32 w A n l) :
    Calls Try.prog 197 #[.slice A n c, .agg #[.int .i64 a0, .int .i64 a1, .int .i64 a2, .int .i64 a3], .func (.func 198) #[] #[]] w fun e w' =>
      e = .returned (.tuple #[.int .i64 (bs n l a0 0 n), .bool (bsOk l a0 (bs n l a0 0 n))]) ∧ ∃ m os, w' = grow ((w.alloc (.cells #[.int .i64 a0, .int .i64 a1, .int .i64 a2, .int .i64 a3] 32)).drewN m) os := by
  have eg : ∀ args w, (callFunc 198 args).run Try.prog w = .ok (.enter 198 args) w := enters_of Try.func198 (by kernel_rfl) rfl
  have mixed : Try.prog.follows .mixedOrders = true := by kernel_rfl
  have aE := isAgg32
  have zE := sizeOf32
  have u23 := run_underlying Try.underlying23
  have hnl : l.length = n := hr.1
  have hnm : n ≤ 9223372036854775807 := hr.2.1
  have HR := Aside0.mk hr
  clear hr
  go_enter Try.func197, Try.ntmps197
  go_wp2
  have HB := Aside0.mk (show ∀ m os, (grow ((w.alloc (.cells #[.int .i64 a0, .int .i64 a1, .int .i64 a2, .int .i64 a3] 32)).drewN m) os).cell? ⟨w.heap.size, 0, none⟩ = some (.int .i64 a0) ∧ (grow ((w.alloc (.cells #[.int .i64 a0, .int .i64 a1, .int .i64 a2, .int .i64 a3] 32)).drewN m) os).cell? ⟨w.heap.size, 1, none⟩ = some (.int .i64 a1) ∧
      (grow ((w.alloc (.cells #[.int .i64 a0, .int .i64 a1, .int .i64 a2, .int .i64 a3] 32)).drewN m) os).cell? ⟨w.heap.size, 2, none⟩ = some (.int .i64 a2) ∧ (grow ((w.alloc (.cells #[.int .i64 a0, .int .i64 a1, .int .i64 a2, .int .i64 a3] 32)).drewN m) os).cell? ⟨w.heap.size, 3, none⟩ = some (.int .i64 a3) from fun m os =>
    ⟨cell_grown (by simp) (by go_simp) m os, cell_grown (by simp) (by go_simp) m os, cell_grown (by simp) (by go_simp) m os, cell_grown (by simp) (by go_simp) m os⟩)
  have HR1 := Aside0.mk (Kd.C_alloc HR.out (.cells #[.int .i64 a0, .int .i64 a1, .int .i64 a2, .int .i64 a3] 32))
  generalize hw1 : w.alloc (.cells #[.int .i64 a0, .int .i64 a1, .int .i64 a2, .int .i64 a3] 32) = w1 at HB HR1 ⊢
  go_loopg [9, 10] n (fun g1 vi vj wr => ∃ (i j m : Nat) (os : Array Obj), vi = .int .i64 i ∧ vj = .int .i64 j ∧ i ≤ j ∧ j ≤ n ∧ j - i ≤ g1 ∧ wr = grow (w1.drewN m) os ∧ Hid (bs g1 l a0 i j = bs n l a0 0 n))
  case atStart => exact ⟨0, n, 0, #[], rfl, rfl, Nat.zero_le _, Nat.le_refl _, by omega, by rw [grow_empty]; rfl, rfl⟩
  case round =>
    obtain ⟨i, j, m, os, rfl, rfl, hij, hjn, hg, rfl, HS⟩ := hrel
    by_cases hlt : i < j
    · have hltz : (i : Int) < (j : Int) := by omega
      have hmid := mid i j (by omega) (by omega)
      have hd1 : i ≤ (i + j) / 2 := by omega
      have hd2 : (i + j) / 2 < j := by omega
      have hbs : ∃ g2, gk = g2 + 1 := ⟨gk - 1, by omega⟩
      obtain ⟨g2, rfl⟩ := hbs
      have HS2 := Aside0.mk (show bs n l a0 0 n = if (l.getD ((i + j) / 2) z32).f0 < a0 then bs g2 l a0 ((i + j) / 2 + 1) j else bs g2 l a0 i ((i + j) / 2) from by rw [← HS.out, bs, if_pos hlt])
      clear HS
      generalize (i + j) / 2 = h at hmid hd1 hd2 HS2
      have hn0 : 0 < n := by omega
      obtain ⟨ad, eA, hrest⟩ := HR.out.2.2 hn0
      clear hrest
      have hA := HR.out
      rw [eA] at hA
      obtain ⟨b, o, eb, hbs⟩ := spot_none hA hn0
      clear hbs
      clear hA
      rw [eb] at eA
      clear eb ad
      subst eA
      have hz : (h : Int) < (n : Int) := by omega
      have lc : ∀ q os', _ := fun q os' => (grow_class w1 m os q os').symm ▸ cell32 HR1.out h (by omega) (m + q) (os ++ os')
      have bc : ∀ q os', _ := fun q os' => (grow_class w1 m os q os').symm ▸ HB.out (m + q) (os ++ os')
      have CLS := Aside0.mk (grow_class w1 m os)
      generalize hx : l.getD h z32 = x at lc
      generalize hwq : grow (w1.drewN m) os = wq at lc bc CLS ⊢
      have l0 := fun q os' => (lc q os').1
      have l1 := fun q os' => (lc q os').2.1
      have l2 := fun q os' => (lc q os').2.2.1
      have l3 := fun q os' => (lc q os').2.2.2
      have b0 := fun q os' => (bc q os').1
      have b1 := fun q os' => (bc q os').2.1
      have b2 := fun q os' => (bc q os').2.2.1
      have b3 := fun q os' => (bc q os').2.2.2
      clear lc bc
      have hcg : ∀ q os', Calls Try.prog 198 #[.agg #[.int .i64 x.f0, .int .i64 x.f1, .int .i64 x.f2, .int .i64 x.f3], .agg #[.int .i64 a0, .int .i64 a1, .int .i64 a2, .int .i64 a3]] (grow (wq.drewN q) os') fun e w' => e = .returned (.int .i64 (cmpI x.f0 a0)) ∧ ∃ q' os'', w' = grow ((grow (wq.drewN q) os').drewN q') os'' := fun q os' => closure198 _ _ _ _ _ _ _ _ _
      by_cases hlv : cmpI x.f0 a0 < 0
      · go_wp2_with fail
        go_quiet_grown (first | (go_at_fn 198; refine Calls.grown_of (hcg _ _)))
        go_wp2_with fail
        go_roundg g2
        case measure => omega
        case rel => exact ⟨h + 1, j, m + nq, os ++ osq, by go_num, rfl, by omega, hjn, by omega, CLS.out nq osq, (show Hid _ from (by rw [HS2.out, if_pos (by rw [hx]; exact (cmpI_lt _ _).1 hlv)] : _ = _))⟩
      · go_wp2_with fail
        go_quiet_grown (first | (go_at_fn 198; refine Calls.grown_of (hcg _ _)))
        go_wp2_with fail
        go_roundg g2
        case measure => omega
        case rel => exact ⟨i, h, m + nq, os ++ osq, rfl, rfl, by omega, by omega, by omega, CLS.out nq osq, (show Hid _ from (by rw [HS2.out, if_neg (by rw [hx]; exact fun hh => absurd ((cmpI_lt _ _).2 hh) (by omega))] : _ = _))⟩
    · have hR : bs n l a0 0 n = i := by rw [← HS.out, bs_stop _ _ _ _ _ hlt]
      have HRr := Aside0.mk hR
      clear hR HS
      have hltz : ¬ (i : Int) < (j : Int) := by omega
      have hin : i ≤ n := by omega
      have CLS := Aside0.mk (grow_class w1 m os)
      by_cases hi : i < n
      · have hz : (i : Int) < (n : Int) := by omega
        have hn0 : 0 < n := by omega
        obtain ⟨ad, eA, hrest⟩ := HR.out.2.2 hn0
        clear hrest
        have hA := HR.out
        rw [eA] at hA
        obtain ⟨b, o, eb, hbs⟩ := spot_none hA hn0
        clear hbs
        clear hA
        rw [eb] at eA
        clear eb ad
        subst eA
        have lc : ∀ q os', _ := fun q os' => (grow_class w1 m os q os').symm ▸ cell32 HR1.out i hi (m + q) (os ++ os')
        have bc : ∀ q os', _ := fun q os' => (grow_class w1 m os q os').symm ▸ HB.out (m + q) (os ++ os')
        have EOK := Aside0.mk (show bsOk l a0 i = (cmpI (l.getD i z32).f0 a0 == 0) by unfold bsOk; simp [hnl, hi])
        generalize l.getD i z32 = x at lc EOK
        generalize hwq : grow (w1.drewN m) os = wq at lc bc CLS ⊢
        have l0 := fun q os' => (lc q os').1
        have l1 := fun q os' => (lc q os').2.1
        have l2 := fun q os' => (lc q os').2.2.1
        have l3 := fun q os' => (lc q os').2.2.2
        have b0 := fun q os' => (bc q os').1
        have b1 := fun q os' => (bc q os').2.1
        have b2 := fun q os' => (bc q os').2.2.1
        have b3 := fun q os' => (bc q os').2.2.2
        clear lc bc
        have hcg : ∀ q os', Calls Try.prog 198 #[.agg #[.int .i64 x.f0, .int .i64 x.f1, .int .i64 x.f2, .int .i64 x.f3], .agg #[.int .i64 a0, .int .i64 a1, .int .i64 a2, .int .i64 a3]] (grow (wq.drewN q) os') fun e w' => e = .returned (.int .i64 (cmpI x.f0 a0)) ∧ ∃ q' os'', w' = grow ((grow (wq.drewN q) os').drewN q') os'' := fun q os' => closure198 _ _ _ _ _ _ _ _ _
        go_wp2_with fail
        go_quiet_grown (first | (go_at_fn 198; refine Calls.grown_of (hcg _ _)))
        go_wp2_with fail
        go_ret2
        refine ⟨?_, m + nq, os ++ osq, by rw [hw1]; exact CLS.out nq osq⟩
        rw [HRr.out, EOK.out]
        rfl
      · have hz : ¬ (i : Int) < (n : Int) := by omega
        have EOK := Aside0.mk (show bsOk l a0 i = false by unfold bsOk; simp [hnl, hi])
        have hzd : decide ((i : Int) < (n : Int)) = false := decide_eq_false (by omega)
        have HDR := Aside0.mk (show (grow (w1.drewN m) os).drew = grow (w1.drewN (m + 1)) os from rfl)
        generalize hwq : grow (w1.drewN m) os = wq at HDR ⊢
        go_wp2_with fail
        go_big_region_o
        all_goals go_wp2
        all_goals go_ret2
        all_goals refine ⟨?_, m + 1, os, by rw [hw1]; exact HDR.out⟩
        all_goals rw [HRr.out, EOK.out]
        all_goals rfl

def api_SEdge_197.f (l0 : List S32) (a1_0 a1_1 a1_2 a1_3 : Int) : Option (Int × Bool) := some ((bs l0.length l0 a1_0 0 l0.length : Int), bsOk l0 a1_0 (bs l0.length l0 a1_0 0 l0.length))

theorem api_SEdge_197.calls (A0 : Option Addr) (c0 : Nat) (l0 : List S32) (a1_0 a1_1 a1_2 a1_3 : Int) (r1 : Int) (r2 : Bool) (w : World) (hr0 : Kd.C k32 w A0 l0.length l0) (hc0 : l0.length ≤ c0) (h : api_SEdge_197.f l0 a1_0 a1_1 a1_2 a1_3 = some (r1, r2)) :
    Calls Try.prog 197 #[.slice A0 l0.length c0, .agg #[.int .i64 a1_0, .int .i64 a1_1, .int .i64 a1_2, .int .i64 a1_3], .func (.func 198) #[] #[]] w fun e w' => e = .returned (.tuple #[.int .i64 r1, .bool r2]) ∧ Below w.heap.size w w' := by
  have h1 := Option.some.inj h
  obtain ⟨rfl, rfl⟩ := Prod.mk.inj h1
  refine (bsearch_any A0 l0.length c0 l0 a1_0 a1_1 a1_2 a1_3 w hr0).mono ?_
  rintro e w' ⟨he, m, os, rfl⟩
  refine ⟨he, ((Below.refl w.heap.size w).alloc (Nat.le_refl _) _).trans ((below_grow m os).mono (by simp))⟩
end Go.Proofs.Ytflpelbhalndcaa.QV
