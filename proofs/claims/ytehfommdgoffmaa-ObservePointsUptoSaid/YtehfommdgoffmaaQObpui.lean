/- dataflowref16.putInt in the print's form: the ordered put. For every row of fewer than 2^40 facts. -/
import Derived.Test.YtehfommdgoffmaaQObf
import Derived.Test.YtehfommdgoffmaaQObbx1
import Derived.Test.YtehfommdgoffmaaAsc
import Derived.Deep.AppendLies
import Derived.Shelf.RegionOpenPlain
namespace Go.Proofs.Ytehfommdgoffmaa.QObs
open Go.Proofs.Ytehfommdgoffmaa.QObb (dataflowref16_lessInt.f dataflowref16_lessInt.mono dataflowref16_lessInt.calls)
open Go.RowKit Go.Lib Go.Sort Go.Proofs.Ytehfommdgoffmaa.RowK Go.Proofs.Ytehfommdgoffmaa.Bridge Go.Proofs.YtehfommdgoffmaaW.PrintWords Go.Proofs.YtehfommdgoffmaaW.PrintLast Go.Proofs.YtehfommdgoffmaaW.PrintMore
attribute [local go_sem] max2_int min2_int max_two min_two max_three min_three max_four min_four   -- for this text's walks alone
set_option linter.unusedVariables false
set_option linter.unusedSimpArgs false

theorem lay_size {α : Type} : ∀ (xs : List α) (d : Array α) (i : Nat), (lay d i xs).size = d.size
  | [], d, i => rfl
  | x :: t, d, i => by rw [lay, lay_size t]; simp
theorem own_lt {w : World} {base n : Nat} {e : TypeId} {size : Nat} {v : Value} {xs : List Value} (h : w.ownsRow base e size v n xs) (k : Nat) (hk : v.ownBlock = some k) : k < w.heap.size := by
  rcases h.2 with ⟨e1, _⟩ | ⟨g, cap, cur, e2, _, hh, _⟩
  · rw [e1] at hk; simp [Value.ownBlock] at hk
  · rw [e2] at hk
    have : g = k := by simpa [Value.ownBlock] using hk
    subst this
    exact (Array.getElem?_eq_some_iff.1 hh).1
theorem own_cap {w : World} {base n c : Nat} {A : Option Addr} {e : TypeId} {size : Nat} {xs : List Value} (h : w.ownsRow base e size (.slice A n c) n xs) : n ≤ c := by
  rcases h.2 with ⟨e1, e2⟩ | ⟨g, cap, cur, e2, _, hh, hn, _⟩
  · omega
  · injection e2 with e3 e4 e5
    omega
theorem grown_of_below {w W : World} (h : Below w.heap.size w W) (row : Option Nat) : w.grownBy W row := ⟨h.os, h.tape, h.output, h.size, fun k hk _ => h.block k hk⟩
theorem src32_drop {w : World} {base g c n : Nat} {l : List S32} {x : S32} {N : Nat} (h : w.ownsRow base 32 4 (.slice (some ⟨g, 0, none⟩) N c) (l ++ [x]).length (flat32 (l ++ [x]))) (hn : n ≤ l.length) :
    ∀ j u, (flat32 (l.drop n))[j]? = some u → w.cell? ((⟨g, n * 4, none⟩ : Addr).add j) = some u := by
  intro j u hu
  have hc := cells32_of h (n * 4 + j) u (by
    rw [← List.getElem?_drop, flat32_drop, List.drop_append_of_le_length hn, flat32_app, List.getElem?_append_left (List.getElem?_eq_some_iff.1 hu).1]
    exact hu)
  rw [Addr.add_lit]
  exact hc
theorem final_grown {w wd w1 : World} {X : Obj} {row : Option Nat} {g q : Nat} {d : Array S32} (hB : Below w.heap.size w wd) (hg : (wd.alloc X).grownBy w1 row) (hat : row = some g ∨ g = (wd.alloc X).heap.size) :
    w.grownBy (putRowK enc32 4 (Sort.ahead w1 q) g 0 d) row := by
  have hsz : (wd.alloc X).heap.size = wd.heap.size + 1 := World.size_alloc _ _
  have h1 := hB.size
  have h2 := hg.size
  refine ⟨hg.os.trans hB.os, hg.tape.trans hB.tape, hg.output.trans hB.output, by rw [put_size]; omega, fun k hk hne => ?_⟩
  rw [put_heap _ _ _ _ _ _ _ (by omega), if_neg (by
    rintro rfl
    rcases hat with h | h
    · exact hne h.symm
    · omega)]
  rw [hg.block k (by omega) hne, Below.heap_alloc wd X k (by omega)]
  exact hB.block k hk
theorem final_own {w1 : World} {base g cap q : Nat} {l0 r : List S32} {x : S32} {n : Nat} (hn : n ≤ l0.length) (R1 : Kd.R k32 32 w1 base (fun _ => True) (.slice (some ⟨g, 0, none⟩) (l0.length + 1) cap) (l0 ++ [x])) (hr : l0.take n ++ x :: l0.drop n = r) :
    (putRowK enc32 4 (Sort.ahead w1 q) g 0 ((lay (l0 ++ [x]).toArray (n + 1) (l0.drop n)).setIfInBounds n x)).ownsRow base 32 4 (.slice (some ⟨g, 0, none⟩) (l0.length + 1) cap) r.length (flat32 r) := by
  subst hr
  rw [put_final32 l0 x n hn]
  have hl : (l0.take n ++ x :: l0.drop n).length = l0.length + 1 := by simp; omega
  have := R_of_put (w' := w1) (d := k32) (enc := enc32) (by decide) encl32 (fun w base ok x => k32_mkM w base ok x) R1 (l0.take n ++ x :: l0.drop n).toArray (by simp; omega) q (l0.length + 1) (by simp)
  have h2 := own32_of this
  rw [show List.take (l0.length + 1) (l0.take n ++ x :: l0.drop n).toArray.toList = l0.take n ++ x :: l0.drop n from List.take_of_length_le (Nat.le_of_eq hl)] at h2
  exact h2


/-! ### putI: function 26 -/
def putI.l0 : Nat → List (S32) → Int → Int → Int → Int → Int → Int → Option ((List (S32)))
  | 0, _, _, _, _, _, _, _ => none
  | k + 1, x0, x5, x6, x115000, x115001, x115002, x115003 => if x5 < x6 then (if 0 ≤ (wrap64 (Int.tdiv (wrap64 (x5 + x6)) 2)) then (if (wrap64 (Int.tdiv (wrap64 (x5 + x6)) 2)) < (x0.length : Int) then ((dataflowref16_lessInt.f k ((rd_T32 x0 (wrap64 (Int.tdiv (wrap64 (x5 + x6)) 2))).f0) ((rd_T32 x0 (wrap64 (Int.tdiv (wrap64 (x5 + x6)) 2))).f1) ((rd_T32 x0 (wrap64 (Int.tdiv (wrap64 (x5 + x6)) 2))).f2) ((rd_T32 x0 (wrap64 (Int.tdiv (wrap64 (x5 + x6)) 2))).f3) x115000 x115001 x115002 x115003).bind fun t116 => (if t116 = true then (putI.l0 k x0 (wrap64 ((wrap64 (Int.tdiv (wrap64 (x5 + x6)) 2)) + 1)) x6 x115000 x115001 x115002 x115003) else (putI.l0 k x0 x5 (wrap64 (Int.tdiv (wrap64 (x5 + x6)) 2)) x115000 x115001 x115002 x115003))) else (none)) else (none)) else (if 0 ≤ x5 ∧ x5 ≤ (x0.length : Int) ∧ x0.length < 1099511627776 then some (if x5 < (x0.length : Int) ∧ rd_T32 x0 x5 = ⟨x115000, x115001, x115002, x115003⟩ then x0 else x0.take x5.toNat ++ ⟨x115000, x115001, x115002, x115003⟩ :: x0.drop x5.toNat) else none)
def putI.f (k : Nat) (l0 : List (S32)) (a1_0 : Int) (a1_1 : Int) (a1_2 : Int) (a1_3 : Int) : Option ((List (S32))) := putI.l0 k l0 0 (l0.length : Int) a1_0 a1_1 a1_2 a1_3
theorem putI.mono_l : ∀ k, (∀ y0 y1 y2 y3 y4 y5 y6, LeO (putI.l0 k y0 y1 y2 y3 y4 y5 y6) (putI.l0 (k + 1) y0 y1 y2 y3 y4 y5 y6))
  | 0 => fun _ _ _ _ _ _ _ r h => by simp [putI.l0] at h
  | k + 1 => by
    have ih0 := putI.mono_l k
    · intro y0 y1 y2 y3 y4 y5 y6
      unfold putI.l0
      repeat' first
      | (with_reducible exact ih0 _ _ _ _ _ _ _)
      | (with_reducible exact dataflowref16_lessInt.mono _ _ _ _ _ _ _ _ _)
      | (with_reducible exact LeO.refl _)
      | (with_reducible exact LeO.none _)
      | (with_reducible refine LeO.ite ?_ ?_)
      | (with_reducible refine LeO.bind ?_ (fun _ => ?_))
      | exact ih0 _ _ _ _ _ _ _
      | exact dataflowref16_lessInt.mono _ _ _ _ _ _ _ _ _
      | exact LeO.none _
      | refine LeO.ite ?_ ?_
      | refine LeO.bind ?_ (fun _ => ?_)
theorem putI.mono : ∀ a0 a1 a2 a3 a4 k, LeO (putI.f k a0 a1 a2 a3 a4) (putI.f (k + 1) a0 a1 a2 a3 a4) := by
  intro a0 a1 a2 a3 a4 k
  have ih0 := putI.mono_l k
  unfold putI.f
  repeat' first
      | (with_reducible exact ih0 _ _ _ _ _ _ _)
      | (with_reducible exact dataflowref16_lessInt.mono _ _ _ _ _ _ _ _ _)
      | (with_reducible exact LeO.refl _)
      | (with_reducible exact LeO.none _)
      | (with_reducible refine LeO.ite ?_ ?_)
      | (with_reducible refine LeO.bind ?_ (fun _ => ?_))
      | exact ih0 _ _ _ _ _ _ _
      | exact dataflowref16_lessInt.mono _ _ _ _ _ _ _ _ _
      | exact LeO.none _
      | refine LeO.ite ?_ ?_
      | refine LeO.bind ?_ (fun _ => ?_)
def putI.T7 : Bool × List (List Nat × List Nat) := (true, [([], []), ([], []), ([1], [1]), ([0, 2], [0, 2]), ([3], [3]), ([4], [4]), ([4], [4]), ([5, 6, 4], [4, 5, 6]), ([7, 4], [4, 7]), ([4], [4]), ([8, 9, 4], [4, 8, 9]), ([4, 10], [4, 10])])
def putI.B7 : List Nat := [0, 0, 2, 7, 15, 31, 31, 127, 255, 31, 1023, 2047]
theorem putI.tab7 : rtab .any (opsOf Try.f26 7) = putI.T7 := by kernel_rfl
theorem putI.bits7 : waitsOk putI.T7.2 putI.B7 = true := by kernel_rfl
set_option maxHeartbeats 8000000 in
set_option maxRecDepth 100000 in
theorem putI.calls (k : Nat) (A0 : Option Addr) (c0 : Nat) (l0 : List (S32)) (a1_0 : Int) (a1_1 : Int) (a1_2 : Int) (a1_3 : Int) (r : List (S32)) (base : Nat) (w : World) (hbase : base ≤ w.heap.size) (own : w.ownsRow base 32 4 (.slice A0 l0.length c0) l0.length (flat32 l0)) (hr0 : Kd.C k32 w A0 l0.length l0) (hc0 : l0.length ≤ c0) (h : putI.f k l0 a1_0 a1_1 a1_2 a1_3 = some r) :
    Calls Try.prog 26 #[.slice A0 l0.length c0, .agg #[.int .i64 a1_0, .int .i64 a1_1, .int .i64 a1_2, .int .i64 a1_3]] w fun e w' => ∃ v0_ : Value, e = .returned (v0_) ∧ w'.ownsRow base 32 4 v0_ r.length (flat32 r) ∧ (v0_.ownBlock = (Value.slice A0 l0.length c0).ownBlock ∨ ∀ k, v0_.ownBlock = some k → w.heap.size ≤ k) ∧ w.grownBy w' (Value.slice A0 l0.length c0).ownBlock := by
  have OWN := Aside0.mk own
  have HBS := Aside0.mk hbase
  clear own hbase
  have hu32 := Try.underlying32
  have HR0 := Aside0.mk hr0
  have HC0 := Aside0.mk hc0
  clear hr0 hc0
  have HB := Aside0.mk (Below.refl w.heap.size w)
  have H : (putI.l0 k l0 0 (l0.length : Int) a1_0 a1_1 a1_2 a1_3) = some r := h
  clear h
  have H' := Aside0.mk H
  clear H
  go_enter Try.func26, Try.ntmps26
  go_wp2_with (first | ((with_reducible refine gate_dst (N := 3) rfl ?_); refine box_event ?hg (N := 3) ?hd (cs := #[.int .i64 a1_0, .int .i64 a1_1, .int .i64 a1_2, .int .i64 a1_3]) (t := 32) ?hr ?_; (case hd => rfl); (case hg => rfl); (case hr => first | (go_simp; done) | (go_simp; rfl)); intro gb114 hg w3 hbox hb; have n0_ := Aside0.mk (below_step (by repeat (first | (with_reducible first | exact HB.out | apply below_alloc | apply pw_below_drewN | apply below_drew1) | exact HB.out)) hb); have n1_ := Aside0.mk (hbox); have n2_ := Aside0.mk ((by rw [hg]; exact (below_size (by repeat (first | (with_reducible first | exact HB.out | apply below_alloc | apply pw_below_drewN | apply below_drew1) | exact HB.out))) : w.heap.size ≤ gb114)); have n3_ := Aside0.mk ((by rw [hg]; exact (below_size (by repeat (first | (with_reducible first | exact HB.out | apply below_alloc | apply pw_below_drewN | apply below_drew1) | exact HB.out))) : w.heap.size ≤ gb114)); clear HB; have HB := n0_; have BK114 := n1_; have GW114 := n2_; have GE114 := n3_; clear n0_ n1_ n2_ n3_; clear hb hbox hg))
  go_loopg [5, 6] k (fun kq v5 v6 w' => ∃ (x5_1 : Int) (x6_1 : Int), v5 = .int .i64 x5_1 ∧ v6 = .int .i64 x6_1 ∧ Aside0 (putI.l0 kq l0 x5_1 x6_1 a1_0 a1_1 a1_2 a1_3 = some r) ∧ Aside0 (kq ≤ k) ∧ Aside0 (w'.heap[gb114]? = some (.cells #[.int .i64 a1_0, .int .i64 a1_1, .int .i64 a1_2, .int .i64 a1_3] 32 (0, 0))) ∧ Aside0 (Below w.heap.size w w'))
  case atStart => exact ⟨(0), ((l0.length : Int)), (by first | rfl | (simp; done) | (simp [*]; done)), (by first | rfl | (simp; done) | (simp [*]; done)), H', ⟨Nat.le_refl _⟩, ⟨by (with_reducible repeat (first | refine blk_drewN ?_ _ | refine blk_drew ?_ | refine blk_alloc ?_ _)); exact BK114.out⟩, ⟨by repeat (first | (with_reducible first | exact HB.out | apply below_alloc | apply pw_below_drewN | apply below_drew1 | refine below_set ?_ GE114.out) | exact HB.out)⟩⟩
  case round =>
    clear H'
    try clear c2
    try clear p2
    obtain ⟨x5_1, x6_1, rfl, rfl, HA, HK1, BK114, HB⟩ := hrel
    cases gk with
    | zero => exact absurd HA.out (by simp [putI.l0])
    | succ k1 =>
      have H := HA.out
      clear HA
      simp only [putI.l0] at H
      by_cases c4 : x5_1 < x6_1
      · rw [if_pos c4] at H
        have c4b0 : decide (x5_1 < x6_1) = true := decide_eq_true c4
        clear c4
        obtain ⟨ji5, hji5⟩ : ∃ j_ : Int, (wrap64 (Int.tdiv (wrap64 (x5_1 + x6_1)) 2)) = j_ := ⟨_, rfl⟩
        replace H : (if 0 ≤ (ji5) then (if (ji5) < (l0.length : Int) then ((dataflowref16_lessInt.f k1 ((rd_T32 l0 (ji5)).f0) ((rd_T32 l0 (ji5)).f1) ((rd_T32 l0 (ji5)).f2) ((rd_T32 l0 (ji5)).f3) a1_0 a1_1 a1_2 a1_3).bind fun t116 => (if t116 = true then (putI.l0 k1 l0 (wrap64 ((ji5) + 1)) x6_1 a1_0 a1_1 a1_2 a1_3) else (putI.l0 k1 l0 x5_1 ji5 a1_0 a1_1 a1_2 a1_3))) else (none)) else (none)) = some r := by first | (rw [hji5] at H; exact H) | (simp only [hji5] at H ⊢; exact H)
        have hji5w : (IntKind.i64.wrap (Int.tdiv (wrap64 (x5_1 + x6_1)) 2)) = ji5 := (i64_w _).trans hji5
        by_cases c6 : 0 ≤ (ji5)
        · rw [if_pos c6] at H
          have c6b0 : decide (0 ≤ (ji5)) = true := decide_eq_true c6
          clear c6
          by_cases c7 : (ji5) < (l0.length : Int)
          · rw [if_pos c7] at H
            have c7b0 : decide ((ji5) < (l0.length : Int)) = true := decide_eq_true c7
            clear c7
            replace H := Option.bind_eq_some_iff.mp H
            obtain ⟨t116, A80, H⟩ := H
            replace H : (if t116 = true then (putI.l0 k1 l0 (wrap64 ((ji5) + 1)) x6_1 a1_0 a1_1 a1_2 a1_3) else (putI.l0 k1 l0 x5_1 ji5 a1_0 a1_1 a1_2 a1_3)) = some r := H
            have A8 := Aside0.mk A80
            clear A80
            by_cases c9 : t116 = true
            · subst c9
              have H1 : (putI.l0 k1 l0 (wrap64 ((ji5) + 1)) x6_1 a1_0 a1_1 a1_2 a1_3) = some r := by rw [if_pos rfl] at H; exact H
              clear H
              have H := H1
              clear H1
              have H' := Aside0.mk H
              clear H
              try go_wp2
              have n0_ := Aside0.mk (blk_drew BK114.out)
              have n1_ := Aside0.mk (below_drew1 HB.out)
              clear BK114
              clear HB
              have BK114 := n0_
              have HB := n1_
              clear n0_ n1_
              have p115 : 0 ≤ ((ji5) : Int) := of_decide_eq_true (by first | (with_reducible assumption) | assumption)
              have q115 : (ji5) < (l0.length : Int) := of_decide_eq_true (by first | (with_reducible assumption) | assumption)
              obtain ⟨ad115, e115, hx115_0, hx115_1, hx115_2, hx115_3⟩ := at_T32 HR0.out (ji5) p115 q115
              have hw115_3 := hx115_3
              have hw115_2 := hx115_2
              have hw115_1 := hx115_1
              have hw115_0 := hx115_0
              cases e115
              replace hx115_0 := (HB.out.cell (World.block_lt_of_cell? w _ hx115_0)).trans hx115_0
              replace hx115_1 := (HB.out.cell (World.block_lt_of_cell? w _ hx115_1)).trans hx115_1
              replace hx115_2 := (HB.out.cell (World.block_lt_of_cell? w _ hx115_2)).trans hx115_2
              replace hx115_3 := (HB.out.cell (World.block_lt_of_cell? w _ hx115_3)).trans hx115_3
              replace p115 := eq_true p115
              replace q115 := eq_true q115
              refine start_ (n := 6) (S := fun w' => w'.cell? ⟨gb114, 0, none⟩ = some (.int .i64 a1_0) ∧ w'.cell? ⟨gb114, 1, none⟩ = some (.int .i64 a1_1) ∧ w'.cell? ⟨gb114, 2, none⟩ = some (.int .i64 a1_2) ∧ w'.cell? ⟨gb114, 3, none⟩ = some (.int .i64 a1_3) ∧ w'.cell? (ad115.add (((ji5)).toNat * 4)) = some (.int .i64 ((rd_T32 l0 (ji5)).f0)) ∧ w'.cell? ⟨(ad115.add (((ji5)).toNat * 4)).block, (ad115.add (((ji5)).toNat * 4)).off + 1, none⟩ = some (.int .i64 ((rd_T32 l0 (ji5)).f1)) ∧ w'.cell? ⟨(ad115.add (((ji5)).toNat * 4)).block, (ad115.add (((ji5)).toNat * 4)).off + 2, none⟩ = some (.int .i64 ((rd_T32 l0 (ji5)).f2)) ∧ w'.cell? ⟨(ad115.add (((ji5)).toNat * 4)).block, (ad115.add (((ji5)).toNat * 4)).off + 3, none⟩ = some (.int .i64 ((rd_T32 l0 (ji5)).f3))) (ds := []) #[false, false, false, false, false, false] (by kernel_rfl) rfl rfl ⟨(blk_cell BK114.out 0).trans rfl, (blk_cell BK114.out 1).trans rfl, (blk_cell BK114.out 2).trans rfl, (blk_cell BK114.out 3).trans rfl, ((HB.out.cell (World.block_lt_of_cell? w _ hw115_0)).trans hw115_0), ((HB.out.cell (World.block_lt_of_cell? w _ hw115_1)).trans hw115_1), ((HB.out.cell (World.block_lt_of_cell? w _ hw115_2)).trans hw115_2), ((HB.out.cell (World.block_lt_of_cell? w _ hw115_3)).trans hw115_3)⟩ (fun hHeld => ?_)
              generalize wr.drew = w10 at BK114 HB hx115_0 hx115_1 hx115_2 hx115_3 hHeld ⊢
              refine pure_ (i := 0) (N := some 17) (v := ?_) (a' := ?_) #[true, false, false, false, false, false] rfl rfl (by kernel_rfl) (fun _ _ _ h => h) (Or.inl ⟨by rfl, ?_⟩) ?_ ?_
              rotate_left
              · intro w'
                go_simp
                with_reducible rfl
              rotate_left
              · simp only [Act.put, List.setIfInBounds_toArray, List.set_cons_zero, List.set_cons_succ, i64_w, i32_w]
                rfl
              refine pure_ (i := 1) (N := some 18) (v := ?_) (a' := ?_) #[true, true, false, false, false, false] rfl rfl (by kernel_rfl) (fun _ _ _ h => h) (Or.inl ⟨by rfl, ?_⟩) ?_ ?_
              rotate_left
              · intro w'
                go_simp
                with_reducible rfl
              rotate_left
              · simp only [Act.put, List.setIfInBounds_toArray, List.set_cons_zero, List.set_cons_succ, i64_w, i32_w]
                rfl
              refine pure_ (i := 2) (N := some 19) (v := ?_) (a' := ?_) #[true, true, true, false, false, false] rfl rfl (by kernel_rfl) (fun _ _ _ h => h) (Or.inl ⟨by rfl, ?_⟩) ?_ ?_
              rotate_left
              · intro w'
                go_simp
                with_reducible rfl
              rotate_left
              · simp only [Act.put, List.setIfInBounds_toArray, List.set_cons_zero, List.set_cons_succ, i64_w, i32_w]
                rfl
              refine take_ (i := 3) (N := some 20) (v := ?_) (a' := ?_) #[true, true, true, true, false, false] rfl rfl (by kernel_rfl) (fun _ _ _ h => h) (Or.inl ⟨by rfl, ?_⟩) hHeld ?_ ?_
              rotate_left
              · rintro w' ⟨s0, s1, s2, s3, s4, s5, s6, s7⟩
                go_simp
                with_reducible rfl
              rotate_left
              · simp only [Act.put, List.setIfInBounds_toArray, List.set_cons_zero, List.set_cons_succ, i64_w, i32_w]
                rfl
              refine take_ (i := 4) (N := some 21) (v := ?_) (a' := ?_) #[true, true, true, true, true, false] rfl rfl (by kernel_rfl) (fun _ _ _ h => h) (Or.inl ⟨by rfl, ?_⟩) hHeld ?_ ?_
              rotate_left
              · rintro w' ⟨s0, s1, s2, s3, s4, s5, s6, s7⟩
                go_simp
                with_reducible rfl
              rotate_left
              · simp only [Act.put, List.setIfInBounds_toArray, List.set_cons_zero, List.set_cons_succ, i64_w, i32_w]
                rfl
              refine one_ (i := 5) (N := some 22) #[true, true, true, true, true, true] rfl rfl (by kernel_rfl) (by decide) (fun K hK => ?_)
              refine goes_ Try.func37 (by kernel_rfl) rfl #[.agg #[.int .i64 ((rd_T32 l0 (ji5)).f0), .int .i64 ((rd_T32 l0 (ji5)).f1), .int .i64 ((rd_T32 l0 (ji5)).f2), .int .i64 ((rd_T32 l0 (ji5)).f3)], .agg #[.int .i64 a1_0, .int .i64 a1_1, .int .i64 a1_2, .int .i64 a1_3]] (by rfl) rfl rfl (by (try simp only [List.map_toArray, List.map_cons, List.map_nil]); first | done | (simp only [hji5]; rfl) | rfl | (simp only [List.length_drop, List.length_take]; rfl)) ?_
              with_reducible refine (dataflowref16_lessInt.calls k1 ((rd_T32 l0 (ji5)).f0) ((rd_T32 l0 (ji5)).f1) ((rd_T32 l0 (ji5)).f2) ((rd_T32 l0 (ji5)).f3) a1_0 a1_1 a1_2 a1_3 true _ A8.out).mono ?_
              rintro e w11 ⟨rfl, hb⟩
              refine ⟨_, rfl, ?_⟩
              have n0_ := Aside0.mk (blk_below (g := gb114) (o := .cells #[.int .i64 a1_0, .int .i64 a1_1, .int .i64 a1_2, .int .i64 a1_3] 32 (0, 0)) (by (with_reducible repeat (first | refine blk_drewN ?_ _ | refine blk_drew ?_ | refine blk_alloc ?_ _)); exact BK114.out) hb)
              have n1_ := Aside0.mk (below_step (by repeat (first | (with_reducible first | exact HB.out | apply below_alloc | apply pw_below_drewN | apply below_drew1 | refine below_set ?_ GE114.out) | exact HB.out)) hb)
              clear BK114
              clear HB
              have BK114 := n0_
              have HB := n1_
              clear n0_ n1_
              (try clear hb)
              (try clear hb2)
              (try clear hk)
              (try clear hi)
              refine hK.out _ _ ⟨(blk_cell BK114.out 0).trans rfl, (blk_cell BK114.out 1).trans rfl, (blk_cell BK114.out 2).trans rfl, (blk_cell BK114.out 3).trans rfl, ((HB.out.cell (World.block_lt_of_cell? w _ hw115_0)).trans hw115_0), ((HB.out.cell (World.block_lt_of_cell? w _ hw115_1)).trans hw115_1), ((HB.out.cell (World.block_lt_of_cell? w _ hw115_2)).trans hw115_2), ((HB.out.cell (World.block_lt_of_cell? w _ hw115_3)).trans hw115_3)⟩ (fun hHeld => ?_)
              clear hK K
              refine norm_ (a' := ?_) ?_ ?_
              rotate_left
              · show Act.put _ (some 22) _ = _
                simp only [Act.put, List.setIfInBounds_toArray, List.set_cons_zero, List.set_cons_succ, i64_w, i32_w]
                rfl
              refine done_ (by kernel_rfl) ?_
              try go_wp2
              go_roundg k1
              case measure => have := HK1.out; omega
              case rel => exact ⟨(wrap64 ((ji5) + 1)), (x6_1), (by first | rfl | (simp; done) | (simp only [← hji5] <;> (first | rfl | simp)) | (simp [*]; done)), (by first | rfl | (simp; done) | (simp [*]; done)), H', ⟨by have := HK1.out; omega⟩, ⟨by (with_reducible repeat (first | refine blk_drewN ?_ _ | refine blk_drew ?_ | refine blk_alloc ?_ _)); exact BK114.out⟩, ⟨by repeat (first | (with_reducible first | exact HB.out | apply below_alloc | apply pw_below_drewN | apply below_drew1 | refine below_set ?_ GE114.out) | exact HB.out)⟩⟩
            · replace c9 := Bool.eq_false_iff.mpr c9
              subst c9
              have H1 : (putI.l0 k1 l0 x5_1 ji5 a1_0 a1_1 a1_2 a1_3) = some r := by rw [if_neg (show ¬ (false = true) by decide)] at H; exact H
              clear H
              have H := H1
              clear H1
              have H' := Aside0.mk H
              clear H
              try go_wp2
              have n0_ := Aside0.mk (blk_drew BK114.out)
              have n1_ := Aside0.mk (below_drew1 HB.out)
              clear BK114
              clear HB
              have BK114 := n0_
              have HB := n1_
              clear n0_ n1_
              have p115 : 0 ≤ ((ji5) : Int) := of_decide_eq_true (by first | (with_reducible assumption) | assumption)
              have q115 : (ji5) < (l0.length : Int) := of_decide_eq_true (by first | (with_reducible assumption) | assumption)
              obtain ⟨ad115, e115, hx115_0, hx115_1, hx115_2, hx115_3⟩ := at_T32 HR0.out (ji5) p115 q115
              have hw115_3 := hx115_3
              have hw115_2 := hx115_2
              have hw115_1 := hx115_1
              have hw115_0 := hx115_0
              cases e115
              replace hx115_0 := (HB.out.cell (World.block_lt_of_cell? w _ hx115_0)).trans hx115_0
              replace hx115_1 := (HB.out.cell (World.block_lt_of_cell? w _ hx115_1)).trans hx115_1
              replace hx115_2 := (HB.out.cell (World.block_lt_of_cell? w _ hx115_2)).trans hx115_2
              replace hx115_3 := (HB.out.cell (World.block_lt_of_cell? w _ hx115_3)).trans hx115_3
              replace p115 := eq_true p115
              replace q115 := eq_true q115
              refine start_ (n := 6) (S := fun w' => w'.cell? ⟨gb114, 0, none⟩ = some (.int .i64 a1_0) ∧ w'.cell? ⟨gb114, 1, none⟩ = some (.int .i64 a1_1) ∧ w'.cell? ⟨gb114, 2, none⟩ = some (.int .i64 a1_2) ∧ w'.cell? ⟨gb114, 3, none⟩ = some (.int .i64 a1_3) ∧ w'.cell? (ad115.add (((ji5)).toNat * 4)) = some (.int .i64 ((rd_T32 l0 (ji5)).f0)) ∧ w'.cell? ⟨(ad115.add (((ji5)).toNat * 4)).block, (ad115.add (((ji5)).toNat * 4)).off + 1, none⟩ = some (.int .i64 ((rd_T32 l0 (ji5)).f1)) ∧ w'.cell? ⟨(ad115.add (((ji5)).toNat * 4)).block, (ad115.add (((ji5)).toNat * 4)).off + 2, none⟩ = some (.int .i64 ((rd_T32 l0 (ji5)).f2)) ∧ w'.cell? ⟨(ad115.add (((ji5)).toNat * 4)).block, (ad115.add (((ji5)).toNat * 4)).off + 3, none⟩ = some (.int .i64 ((rd_T32 l0 (ji5)).f3))) (ds := []) #[false, false, false, false, false, false] (by kernel_rfl) rfl rfl ⟨(blk_cell BK114.out 0).trans rfl, (blk_cell BK114.out 1).trans rfl, (blk_cell BK114.out 2).trans rfl, (blk_cell BK114.out 3).trans rfl, ((HB.out.cell (World.block_lt_of_cell? w _ hw115_0)).trans hw115_0), ((HB.out.cell (World.block_lt_of_cell? w _ hw115_1)).trans hw115_1), ((HB.out.cell (World.block_lt_of_cell? w _ hw115_2)).trans hw115_2), ((HB.out.cell (World.block_lt_of_cell? w _ hw115_3)).trans hw115_3)⟩ (fun hHeld => ?_)
              generalize wr.drew = w12 at BK114 HB hx115_0 hx115_1 hx115_2 hx115_3 hHeld ⊢
              refine pure_ (i := 0) (N := some 17) (v := ?_) (a' := ?_) #[true, false, false, false, false, false] rfl rfl (by kernel_rfl) (fun _ _ _ h => h) (Or.inl ⟨by rfl, ?_⟩) ?_ ?_
              rotate_left
              · intro w'
                go_simp
                with_reducible rfl
              rotate_left
              · simp only [Act.put, List.setIfInBounds_toArray, List.set_cons_zero, List.set_cons_succ, i64_w, i32_w]
                rfl
              refine pure_ (i := 1) (N := some 18) (v := ?_) (a' := ?_) #[true, true, false, false, false, false] rfl rfl (by kernel_rfl) (fun _ _ _ h => h) (Or.inl ⟨by rfl, ?_⟩) ?_ ?_
              rotate_left
              · intro w'
                go_simp
                with_reducible rfl
              rotate_left
              · simp only [Act.put, List.setIfInBounds_toArray, List.set_cons_zero, List.set_cons_succ, i64_w, i32_w]
                rfl
              refine pure_ (i := 2) (N := some 19) (v := ?_) (a' := ?_) #[true, true, true, false, false, false] rfl rfl (by kernel_rfl) (fun _ _ _ h => h) (Or.inl ⟨by rfl, ?_⟩) ?_ ?_
              rotate_left
              · intro w'
                go_simp
                with_reducible rfl
              rotate_left
              · simp only [Act.put, List.setIfInBounds_toArray, List.set_cons_zero, List.set_cons_succ, i64_w, i32_w]
                rfl
              refine take_ (i := 3) (N := some 20) (v := ?_) (a' := ?_) #[true, true, true, true, false, false] rfl rfl (by kernel_rfl) (fun _ _ _ h => h) (Or.inl ⟨by rfl, ?_⟩) hHeld ?_ ?_
              rotate_left
              · rintro w' ⟨s0, s1, s2, s3, s4, s5, s6, s7⟩
                go_simp
                with_reducible rfl
              rotate_left
              · simp only [Act.put, List.setIfInBounds_toArray, List.set_cons_zero, List.set_cons_succ, i64_w, i32_w]
                rfl
              refine take_ (i := 4) (N := some 21) (v := ?_) (a' := ?_) #[true, true, true, true, true, false] rfl rfl (by kernel_rfl) (fun _ _ _ h => h) (Or.inl ⟨by rfl, ?_⟩) hHeld ?_ ?_
              rotate_left
              · rintro w' ⟨s0, s1, s2, s3, s4, s5, s6, s7⟩
                go_simp
                with_reducible rfl
              rotate_left
              · simp only [Act.put, List.setIfInBounds_toArray, List.set_cons_zero, List.set_cons_succ, i64_w, i32_w]
                rfl
              refine one_ (i := 5) (N := some 22) #[true, true, true, true, true, true] rfl rfl (by kernel_rfl) (by decide) (fun K hK => ?_)
              refine goes_ Try.func37 (by kernel_rfl) rfl #[.agg #[.int .i64 ((rd_T32 l0 (ji5)).f0), .int .i64 ((rd_T32 l0 (ji5)).f1), .int .i64 ((rd_T32 l0 (ji5)).f2), .int .i64 ((rd_T32 l0 (ji5)).f3)], .agg #[.int .i64 a1_0, .int .i64 a1_1, .int .i64 a1_2, .int .i64 a1_3]] (by rfl) rfl rfl (by (try simp only [List.map_toArray, List.map_cons, List.map_nil]); first | done | (simp only [hji5]; rfl) | rfl | (simp only [List.length_drop, List.length_take]; rfl)) ?_
              with_reducible refine (dataflowref16_lessInt.calls k1 ((rd_T32 l0 (ji5)).f0) ((rd_T32 l0 (ji5)).f1) ((rd_T32 l0 (ji5)).f2) ((rd_T32 l0 (ji5)).f3) a1_0 a1_1 a1_2 a1_3 false _ A8.out).mono ?_
              rintro e w13 ⟨rfl, hb⟩
              refine ⟨_, rfl, ?_⟩
              have n0_ := Aside0.mk (blk_below (g := gb114) (o := .cells #[.int .i64 a1_0, .int .i64 a1_1, .int .i64 a1_2, .int .i64 a1_3] 32 (0, 0)) (by (with_reducible repeat (first | refine blk_drewN ?_ _ | refine blk_drew ?_ | refine blk_alloc ?_ _)); exact BK114.out) hb)
              have n1_ := Aside0.mk (below_step (by repeat (first | (with_reducible first | exact HB.out | apply below_alloc | apply pw_below_drewN | apply below_drew1 | refine below_set ?_ GE114.out) | exact HB.out)) hb)
              clear BK114
              clear HB
              have BK114 := n0_
              have HB := n1_
              clear n0_ n1_
              (try clear hb)
              (try clear hb2)
              (try clear hk)
              (try clear hi)
              refine hK.out _ _ ⟨(blk_cell BK114.out 0).trans rfl, (blk_cell BK114.out 1).trans rfl, (blk_cell BK114.out 2).trans rfl, (blk_cell BK114.out 3).trans rfl, ((HB.out.cell (World.block_lt_of_cell? w _ hw115_0)).trans hw115_0), ((HB.out.cell (World.block_lt_of_cell? w _ hw115_1)).trans hw115_1), ((HB.out.cell (World.block_lt_of_cell? w _ hw115_2)).trans hw115_2), ((HB.out.cell (World.block_lt_of_cell? w _ hw115_3)).trans hw115_3)⟩ (fun hHeld => ?_)
              clear hK K
              refine norm_ (a' := ?_) ?_ ?_
              rotate_left
              · show Act.put _ (some 22) _ = _
                simp only [Act.put, List.setIfInBounds_toArray, List.set_cons_zero, List.set_cons_succ, i64_w, i32_w]
                rfl
              refine done_ (by kernel_rfl) ?_
              try go_wp2
              go_roundg k1
              case measure => have := HK1.out; omega
              case rel => exact ⟨(x5_1), (ji5), (by first | rfl | (simp; done) | (simp [*]; done)), (by first | rfl | (simp; done) | (simp only [← hji5] <;> (first | rfl | simp)) | (simp [*]; done)), H', ⟨by have := HK1.out; omega⟩, ⟨by (with_reducible repeat (first | refine blk_drewN ?_ _ | refine blk_drew ?_ | refine blk_alloc ?_ _)); exact BK114.out⟩, ⟨by repeat (first | (with_reducible first | exact HB.out | apply below_alloc | apply pw_below_drewN | apply below_drew1 | refine below_set ?_ GE114.out) | exact HB.out)⟩⟩
          · rw [if_neg c7] at H
            exact absurd H (by simp)
        · rw [if_neg c6] at H
          exact absurd H (by simp)
      · rw [if_neg c4] at H
        have c4b0 : decide (x5_1 < x6_1) = false := decide_eq_false c4
        clear c4
        by_cases cnd : 0 ≤ x5_1 ∧ x5_1 ≤ (l0.length : Int) ∧ l0.length < 1099511627776
        case neg => rw [if_neg cnd] at H; cases H
        rw [if_pos cnd] at H
        obtain ⟨h0, h1, hL⟩ := cnd
        obtain ⟨n, rfl⟩ := Int.eq_ofNat_of_zero_le h0
        clear h0
        have hn : n ≤ l0.length := by omega
        clear h1
        have HH := Aside0.mk (Option.some.inj H)
        clear H
        have bx0 : wr.cell? ⟨gb114, 0, none⟩ = some (.int .i64 a1_0) := (blk_cell BK114.out 0).trans rfl
        have bx1 : wr.cell? ⟨gb114, 1, none⟩ = some (.int .i64 a1_1) := (blk_cell BK114.out 1).trans rfl
        have bx2 : wr.cell? ⟨gb114, 2, none⟩ = some (.int .i64 a1_2) := (blk_cell BK114.out 2).trans rfl
        have bx3 : wr.cell? ⟨gb114, 3, none⟩ = some (.int .i64 a1_3) := (blk_cell BK114.out 3).trans rfl
        have mixed : Try.prog.follows .mixedOrders = true := by kernel_rfl
        by_cases c1 : n < l0.length
        · obtain ⟨ad, ead, hx0, hx1, hx2, hx3⟩ := at_T32 HR0.out (n : Int) (by omega) (by omega)
          have hA : ∃ g, ad = ⟨g, 0, none⟩ := by
            rcases OWN.out.2 with ⟨e1, _⟩ | ⟨g, cap, cur, e2, _⟩
            · injection e1 with e1; rw [ead] at e1; cases e1
            · injection e2 with e2; rw [ead] at e2; injection e2 with e2; exact ⟨g, e2⟩
          obtain ⟨g0, eg⟩ := hA
          subst eg
          subst ead
          have q0 := (HB.out.cell (World.block_lt_of_cell? w _ hx0)).trans hx0
          have q1 := (HB.out.cell (World.block_lt_of_cell? w _ hx1)).trans hx1
          have q2 := (HB.out.cell (World.block_lt_of_cell? w _ hx2)).trans hx2
          have q3 := (HB.out.cell (World.block_lt_of_cell? w _ hx3)).trans hx3
          clear hx0 hx1 hx2 hx3
          simp only [Int.toNat_natCast, Addr.add_lit, Nat.zero_add] at q0 q1 q2 q3
          have he := fun dd W => eq32 dd W (rd_T32 l0 n) ⟨a1_0, a1_1, a1_2, a1_3⟩
          simp only [enc32] at he
          generalize hy : rd_T32 l0 n = y at q0 q1 q2 q3 he
          have HY := Aside0.mk hy
          clear hy
          by_cases e : y = ⟨a1_0, a1_1, a1_2, a1_3⟩
          · rw [show decide (y = ⟨a1_0, a1_1, a1_2, a1_3⟩) = true from decide_eq_true e] at he
            have E0 := Aside0.mk e
            clear e
            go_wp2_with fail
            go_big_region_o
            all_goals go_wp2
            go_ret
            have hr : l0 = r := by rw [← HH.out, if_pos ⟨by omega, by rw [HY.out, E0.out]⟩]
            subst hr
            exact ⟨_, rfl, own_move OWN.out (fun k hk => HB.out.drew.block k (own_lt OWN.out k hk)), Or.inl rfl, grown_of_below HB.out.drew _⟩
          · rw [show decide (y = ⟨a1_0, a1_1, a1_2, a1_3⟩) = false from decide_eq_false e] at he
            have E0 := Aside0.mk e
            clear e
            go_wp2_with fail
            go_big_region_o
            clear q0 q1 q2 q3 he
            have HR := Aside0.mk (show l0.take n ++ (⟨a1_0, a1_1, a1_2, a1_3⟩ : S32) :: l0.drop n = r from (by rw [← HH.out, if_neg (fun h => E0.out (by rw [← HY.out]; exact h.2))]; rfl))
            have hwd : Below w.heap.size w wr.drew := HB.out.drew
            have own1 : wr.drew.ownsRow base 32 4 (.slice (some ⟨g0, 0, none⟩) l0.length c0) l0.length (flat32 l0) := own_move OWN.out (fun k hk => hwd.block k (own_lt OWN.out k hk))
            have bw0 : wr.drew.cell? ⟨gb114, 0, none⟩ = some (.int .i64 a1_0) := bx0
            have bw1 : wr.drew.cell? ⟨gb114, 1, none⟩ = some (.int .i64 a1_1) := bx1
            have bw2 : wr.drew.cell? ⟨gb114, 2, none⟩ = some (.int .i64 a1_2) := bx2
            have bw3 : wr.drew.cell? ⟨gb114, 3, none⟩ = some (.int .i64 a1_3) := bx3
            clear HB BK114 bx0 bx1 bx2 bx3 mixed
            generalize wr.drew = wd at hwd own1 bw0 bw1 bw2 bw3 ⊢
            have OW1 := Aside0.mk own1
            have HWD := Aside0.mk hwd
            clear own1 hwd
            have hq := World.block_lt_of_cell? wd _ bw0
            obtain ⟨i0, hi, hz0, hz1, hz2⟩ := info_parts info32
            go_wp2_with (refine wpList_append_lies _ rfl (.tmp 39) (.tmp 41) 29 rfl base 32 i0 _ 4 32 Try.underlying29 hi hz0 hz1 hz2 rfl (by decide) (.slice (some ⟨g0, 0, none⟩) l0.length c0) l0.length (flat32 l0) rfl (OW1.out.alloc _) ⟨_, 0, none⟩ 1 1 (enc32 ⟨a1_0, a1_1, a1_2, a1_3⟩) rfl rfl ?news (enc132 _) (by decide) (by unfold maxLen; omega) (by omega) ?bas _ rfl ?_; (case news => (intro j u hj; (match j, hj with | 0, hj => (obtain rfl : _ = u := by simpa [enc32] using hj); go_simp | 1, hj => (obtain rfl : _ = u := by simpa [enc32] using hj); go_simp | 2, hj => (obtain rfl : _ = u := by simpa [enc32] using hj); go_simp | 3, hj => (obtain rfl : _ = u := by simpa [enc32] using hj); go_simp | j + 4, hj => simp [enc32] at hj))); (case bas => exact Nat.le_trans HBS.out (Nat.le_trans HWD.out.size (by simp))); intro g cap w1 hown1 hgr1 hat hlt1)
            have hsz : (wd.alloc (Obj.cells #[Value.int IntKind.i64 a1_0, Value.int IntKind.i64 a1_1, Value.int IntKind.i64 a1_2, Value.int IntKind.i64 a1_3] 32)).heap.size = wd.heap.size + 1 := World.size_alloc _ _
            have OWN1 : w1.ownsRow base 32 4 (.slice (some ⟨g, 0, none⟩) (l0.length + 1) cap) (l0 ++ [(⟨a1_0, a1_1, a1_2, a1_3⟩ : S32)]).length (flat32 (l0 ++ [(⟨a1_0, a1_1, a1_2, a1_3⟩ : S32)])) := by
              rw [show (l0 ++ [(⟨a1_0, a1_1, a1_2, a1_3⟩ : S32)]).length = l0.length + 1 by simp, flat32_app, flat32, flat32, List.append_nil]
              exact hown1
            have R1 : Kd.R k32 32 w1 base (fun _ => True) (.slice (some ⟨g, 0, none⟩) (l0.length + 1) cap) (l0 ++ [(⟨a1_0, a1_1, a1_2, a1_3⟩ : S32)]) := R32_of OWN1 (fun _ _ => trivial)
            obtain ⟨-, hg1, hbg, -, hH1⟩ := R_holds (d := k32) (enc := enc32) (by decide) (fun _ _ _ _ _ h => enc32_of h) R1
            have hcap : l0.length + 1 ≤ cap := own_cap hown1
            have hgg : gb114 ≠ g := by
              rintro rfl
              rcases hat with h | h
              · have := own_lt OWN.out gb114 h; have := GE114.out; omega
              · omega
            have hne : some gb114 ≠ (Value.slice (some ⟨g0, 0, none⟩) l0.length c0).ownBlock := fun e => by have := own_lt OWN.out gb114 e.symm; have := GE114.out; omega
            have bv0 : w1.cell? ⟨gb114, 0, none⟩ = some (.int .i64 a1_0) := (hgr1.cell_far ⟨gb114, 0, none⟩ (by show gb114 < _; omega) hne).trans ((World.cell?_alloc_lt _ _ _ hq).trans bw0)
            have bv1 : w1.cell? ⟨gb114, 1, none⟩ = some (.int .i64 a1_1) := (hgr1.cell_far ⟨gb114, 1, none⟩ (by show gb114 < _; omega) hne).trans ((World.cell?_alloc_lt _ _ _ hq).trans bw1)
            have bv2 : w1.cell? ⟨gb114, 2, none⟩ = some (.int .i64 a1_2) := (hgr1.cell_far ⟨gb114, 2, none⟩ (by show gb114 < _; omega) hne).trans ((World.cell?_alloc_lt _ _ _ hq).trans bw2)
            have bv3 : w1.cell? ⟨gb114, 3, none⟩ = some (.int .i64 a1_3) := (hgr1.cell_far ⟨gb114, 3, none⟩ (by show gb114 < _; omega) hne).trans ((World.cell?_alloc_lt _ _ _ hq).trans bw3)
            have hHq : HoldsK enc32 4 w1.drew g 0 (l0 ++ [(⟨a1_0, a1_1, a1_2, a1_3⟩ : S32)]).toArray := hH1
            have hd0 : (l0 ++ [(⟨a1_0, a1_1, a1_2, a1_3⟩ : S32)]).toArray.size = l0.length + 1 := by simp
            obtain ⟨w2, hw2⟩ : ∃ w2, w2 = w1.drew.setCells g ((n + 1) * 4) (flat32 (l0.drop n)) := ⟨_, rfl⟩
            have hcopy : ∀ ty c1 c2, (Builtin.copy_ #[29, 29] ty #[.slice (some ⟨g, (n + 1) * 4, none⟩) (l0.length - n) c1, .slice (some ⟨g, n * 4, none⟩) (l0.length + 1 - n) c2]).run Try.prog w1.drew = .ok (goInt ((l0.length - n : Nat) : Int)) w2 := by
              intro ty c1 c2
              rw [hw2]
              have hfl : (flat32 (l0.drop n)).length = (l0.length - n) * 4 := by rw [flat32_len, List.length_drop]
              have hin : ∀ j, j < (flat32 (l0.drop n)).length → (n + 1) * 4 + j < (flatK enc32 4 (l0 ++ [(⟨a1_0, a1_1, a1_2, a1_3⟩ : S32)]).toArray).size := fun j hj => by rw [size_flatK, hd0]; omega
              refine run_copyK w1.drew 29 29 ty 32 4 g ((n + 1) * 4) ⟨g, n * 4, none⟩ (l0.length - n) c1 (l0.length + 1 - n) c2 (l0.length - n) (flat32 (l0.drop n)) Try.underlying29 (by kernel_rfl) (Nat.min_eq_right (by omega)) hfl (src32_drop (x := (⟨a1_0, a1_1, a1_2, a1_3⟩ : S32)) OWN1 (by omega)) (fun j hj => ?_) (fun j hj => ?_) (flat32_one _)
              · have := (hHq _ (hin j hj)).1; rw [Nat.zero_add] at this; rw [this]; rfl
              · have := (hHq _ (hin j hj)).2; rw [Nat.zero_add] at this; exact this
            have hw4 : w2 = putRowK enc32 4 (Sort.ahead w1 1) g 0 (lay (l0 ++ [(⟨a1_0, a1_1, a1_2, a1_3⟩ : S32)]).toArray (n + 1) (l0.drop n)) := by
              rw [hw2, ← setCells_flat32 _ _ _ _ _ (by rw [hd0, List.length_drop]; omega), putRowK_self enc32 4 (Sort.ahead w1 1) g 0 _ (holdsK_ahead enc32 4 w1 1 g 0 _ hH1)]
              rfl
            have hls : (lay (l0 ++ [(⟨a1_0, a1_1, a1_2, a1_3⟩ : S32)]).toArray (n + 1) (l0.drop n)).size = l0.length + 1 := by rw [lay_size, hd0]
            have hH2 : HoldsK enc32 4 w2 g 0 (lay (l0 ++ [(⟨a1_0, a1_1, a1_2, a1_3⟩ : S32)]).toArray (n + 1) (l0.drop n)) := by rw [hw4]; exact holdsK_putRowK enc32 4 _ g 0 _ _ (holdsK_ahead enc32 4 w1 1 g 0 _ hH1) (by rw [hls, hd0])
            have bu0 : w2.cell? ⟨gb114, 0, none⟩ = some (.int .i64 a1_0) := by rw [hw4, cell?_putRowK_other _ _ _ _ _ _ _ (by exact hgg)]; exact bv0
            have bu1 : w2.cell? ⟨gb114, 1, none⟩ = some (.int .i64 a1_1) := by rw [hw4, cell?_putRowK_other _ _ _ _ _ _ _ (by exact hgg)]; exact bv1
            have bu2 : w2.cell? ⟨gb114, 2, none⟩ = some (.int .i64 a1_2) := by rw [hw4, cell?_putRowK_other _ _ _ _ _ _ _ (by exact hgg)]; exact bv2
            have bu3 : w2.cell? ⟨gb114, 3, none⟩ = some (.int .i64 a1_3) := by rw [hw4, cell?_putRowK_other _ _ _ _ _ _ _ (by exact hgg)]; exact bv3
            generalize hold : lay (l0 ++ [(⟨a1_0, a1_1, a1_2, a1_3⟩ : S32)]).toArray (n + 1) (l0.drop n) = dl at hw4 hls hH2
            have co0 : w2.cell? ⟨g, n * 4, none⟩ = some (.int .i64 (dl[n]!).f0) := by have := (HoldsK.cell hH2 (i := n) (c := 0) (by omega) (by omega)).1; rw [Nat.zero_add] at this; exact this
            have cf0 : w2.frozen? ⟨g, n * 4, none⟩ = false := by have := (HoldsK.cell hH2 (i := n) (c := 0) (by omega) (by omega)).2; rw [Nat.zero_add] at this; exact this
            have co1 : w2.cell? ⟨g, n * 4 + 1, none⟩ = some (.int .i64 (dl[n]!).f1) := by have := (HoldsK.cell hH2 (i := n) (c := 1) (by omega) (by omega)).1; rw [Nat.zero_add] at this; exact this
            have cf1 : w2.frozen? ⟨g, n * 4 + 1, none⟩ = false := by have := (HoldsK.cell hH2 (i := n) (c := 1) (by omega) (by omega)).2; rw [Nat.zero_add] at this; exact this
            have co2 : w2.cell? ⟨g, n * 4 + 2, none⟩ = some (.int .i64 (dl[n]!).f2) := by have := (HoldsK.cell hH2 (i := n) (c := 2) (by omega) (by omega)).1; rw [Nat.zero_add] at this; exact this
            have cf2 : w2.frozen? ⟨g, n * 4 + 2, none⟩ = false := by have := (HoldsK.cell hH2 (i := n) (c := 2) (by omega) (by omega)).2; rw [Nat.zero_add] at this; exact this
            have co3 : w2.cell? ⟨g, n * 4 + 3, none⟩ = some (.int .i64 (dl[n]!).f3) := by have := (HoldsK.cell hH2 (i := n) (c := 3) (by omega) (by omega)).1; rw [Nat.zero_add] at this; exact this
            have cf3 : w2.frozen? ⟨g, n * 4 + 3, none⟩ = false := by have := (HoldsK.cell hH2 (i := n) (c := 3) (by omega) (by omega)).2; rw [Nat.zero_add] at this; exact this
            generalize dl[n]! = old at co0 co1 co2 co3
            have W4 := Aside0.mk hw4
            have OLD := Aside0.mk hold
            have LS := Aside0.mk hls
            have GR1 := Aside0.mk hgr1
            have HAT := Aside0.mk hat
            have RR1 := Aside0.mk R1
            have mixed : Try.prog.follows .mixedOrders = true := by kernel_rfl
            clear hw2 hw4 hold hls hH2 hgr1 hat R1 OWN1 hown1 hHq hd0 hH1 bw0 bw1 bw2 bw3 hne hgg hsz hlt1 hg1 hbg
            go_big_region_o
            all_goals go_wp2
            go_ret
            have hst := store_worldK enc32 4 encl32 (i := n) (by have := LS.out; omega) W4.out (⟨a1_0, a1_1, a1_2, a1_3⟩ : S32) 0
            rw [Nat.zero_add] at hst
            have hst2 : (((w2.setCell ⟨g, n * 4, none⟩ (.int .i64 a1_0)).setCell ⟨g, n * 4 + 1, none⟩ (.int .i64 a1_1)).setCell ⟨g, n * 4 + 2, none⟩ (.int .i64 a1_2)).setCell ⟨g, n * 4 + 3, none⟩ (.int .i64 a1_3) = putRowK enc32 4 (Sort.ahead w1 1) g 0 (dl.setIfInBounds n (⟨a1_0, a1_1, a1_2, a1_3⟩ : S32)) := hst
            rw [hst2, ← OLD.out]
            refine ⟨_, rfl, final_own (by omega) RR1.out HR.out, ?_, final_grown HWD.out GR1.out HAT.out⟩
            rcases HAT.out with h | h
            · exact Or.inl (by rw [h]; rfl)
            · refine Or.inr fun k hk => ?_
              have e : g = k := by simpa [Value.ownBlock] using hk
              have h1 := HWD.out.size
              rw [World.size_alloc] at h
              omega
        · have hnn : n = l0.length := by omega
          subst hnn
          go_wp2_with fail
          go_big_region_o
          have HR := Aside0.mk (show l0.take l0.length ++ (⟨a1_0, a1_1, a1_2, a1_3⟩ : S32) :: l0.drop l0.length = r from (by rw [← HH.out, if_neg (fun h => absurd h.1 (by omega))]; rfl))
          have hwd : Below w.heap.size w wr.drew := HB.out.drew
          have own1 : wr.drew.ownsRow base 32 4 (.slice A0 l0.length c0) l0.length (flat32 l0) := own_move OWN.out (fun k hk => hwd.block k (own_lt OWN.out k hk))
          have bw0 : wr.drew.cell? ⟨gb114, 0, none⟩ = some (.int .i64 a1_0) := bx0
          have bw1 : wr.drew.cell? ⟨gb114, 1, none⟩ = some (.int .i64 a1_1) := bx1
          have bw2 : wr.drew.cell? ⟨gb114, 2, none⟩ = some (.int .i64 a1_2) := bx2
          have bw3 : wr.drew.cell? ⟨gb114, 3, none⟩ = some (.int .i64 a1_3) := bx3
          clear HB BK114 bx0 bx1 bx2 bx3 mixed
          generalize wr.drew = wd at hwd own1 bw0 bw1 bw2 bw3 ⊢
          have OW1 := Aside0.mk own1
          have HWD := Aside0.mk hwd
          clear own1 hwd
          have hq := World.block_lt_of_cell? wd _ bw0
          obtain ⟨i0, hi, hz0, hz1, hz2⟩ := info_parts info32
          go_wp2_with (refine wpList_append_lies _ rfl (.tmp 39) (.tmp 41) 29 rfl base 32 i0 _ 4 32 Try.underlying29 hi hz0 hz1 hz2 rfl (by decide) (.slice A0 l0.length c0) l0.length (flat32 l0) rfl (OW1.out.alloc _) ⟨_, 0, none⟩ 1 1 (enc32 ⟨a1_0, a1_1, a1_2, a1_3⟩) rfl rfl ?news (enc132 _) (by decide) (by unfold maxLen; omega) (by omega) ?bas _ rfl ?_; (case news => (intro j u hj; (match j, hj with | 0, hj => (obtain rfl : _ = u := by simpa [enc32] using hj); go_simp | 1, hj => (obtain rfl : _ = u := by simpa [enc32] using hj); go_simp | 2, hj => (obtain rfl : _ = u := by simpa [enc32] using hj); go_simp | 3, hj => (obtain rfl : _ = u := by simpa [enc32] using hj); go_simp | j + 4, hj => simp [enc32] at hj))); (case bas => exact Nat.le_trans HBS.out (Nat.le_trans HWD.out.size (by simp))); intro g cap w1 hown1 hgr1 hat hlt1)
          have hsz : (wd.alloc (Obj.cells #[Value.int IntKind.i64 a1_0, Value.int IntKind.i64 a1_1, Value.int IntKind.i64 a1_2, Value.int IntKind.i64 a1_3] 32)).heap.size = wd.heap.size + 1 := World.size_alloc _ _
          have OWN1 : w1.ownsRow base 32 4 (.slice (some ⟨g, 0, none⟩) (l0.length + 1) cap) (l0 ++ [(⟨a1_0, a1_1, a1_2, a1_3⟩ : S32)]).length (flat32 (l0 ++ [(⟨a1_0, a1_1, a1_2, a1_3⟩ : S32)])) := by
            rw [show (l0 ++ [(⟨a1_0, a1_1, a1_2, a1_3⟩ : S32)]).length = l0.length + 1 by simp, flat32_app, flat32, flat32, List.append_nil]
            exact hown1
          have R1 : Kd.R k32 32 w1 base (fun _ => True) (.slice (some ⟨g, 0, none⟩) (l0.length + 1) cap) (l0 ++ [(⟨a1_0, a1_1, a1_2, a1_3⟩ : S32)]) := R32_of OWN1 (fun _ _ => trivial)
          obtain ⟨-, hg1, hbg, -, hH1⟩ := R_holds (d := k32) (enc := enc32) (by decide) (fun _ _ _ _ _ h => enc32_of h) R1
          have hcap : l0.length + 1 ≤ cap := own_cap hown1
          have hgg : gb114 ≠ g := by
            rintro rfl
            rcases hat with h | h
            · have := own_lt OWN.out gb114 h; have := GE114.out; omega
            · omega
          have hne : some gb114 ≠ (Value.slice A0 l0.length c0).ownBlock := fun e => by have := own_lt OWN.out gb114 e.symm; have := GE114.out; omega
          have bv0 : w1.cell? ⟨gb114, 0, none⟩ = some (.int .i64 a1_0) := (hgr1.cell_far ⟨gb114, 0, none⟩ (by show gb114 < _; omega) hne).trans ((World.cell?_alloc_lt _ _ _ hq).trans bw0)
          have bv1 : w1.cell? ⟨gb114, 1, none⟩ = some (.int .i64 a1_1) := (hgr1.cell_far ⟨gb114, 1, none⟩ (by show gb114 < _; omega) hne).trans ((World.cell?_alloc_lt _ _ _ hq).trans bw1)
          have bv2 : w1.cell? ⟨gb114, 2, none⟩ = some (.int .i64 a1_2) := (hgr1.cell_far ⟨gb114, 2, none⟩ (by show gb114 < _; omega) hne).trans ((World.cell?_alloc_lt _ _ _ hq).trans bw2)
          have bv3 : w1.cell? ⟨gb114, 3, none⟩ = some (.int .i64 a1_3) := (hgr1.cell_far ⟨gb114, 3, none⟩ (by show gb114 < _; omega) hne).trans ((World.cell?_alloc_lt _ _ _ hq).trans bw3)
          have hHq : HoldsK enc32 4 w1.drew g 0 (l0 ++ [(⟨a1_0, a1_1, a1_2, a1_3⟩ : S32)]).toArray := hH1
          have hd0 : (l0 ++ [(⟨a1_0, a1_1, a1_2, a1_3⟩ : S32)]).toArray.size = l0.length + 1 := by simp
          obtain ⟨w2, hw2⟩ : ∃ w2, w2 = w1.drew.setCells g ((l0.length + 1) * 4) (flat32 (l0.drop l0.length)) := ⟨_, rfl⟩
          have hw3 : w2 = w1.drew := by rw [hw2, List.drop_eq_nil_of_le (Nat.le_refl _)]; rfl
          have hcopy : ∀ ty o' c1 c2, (Builtin.copy_ #[29, 29] ty #[.slice (some ⟨g, o', none⟩) 0 c1, .slice (some ⟨g, l0.length * 4, none⟩) 1 c2]).run Try.prog w1.drew = .ok (.int .i64 0) w2 := by
            intro ty o' c1 c2
            rw [hw3]
            exact run_copyK w1.drew 29 29 ty 32 4 g o' ⟨g, l0.length * 4, none⟩ 0 c1 1 c2 0 [] Try.underlying29 (by kernel_rfl) rfl rfl (fun j u h => by simp at h) (fun j h => by simp at h) (fun j h => by simp at h) (fun u h => by simp at h)
          have hw4 : w2 = putRowK enc32 4 (Sort.ahead w1 1) g 0 (lay (l0 ++ [(⟨a1_0, a1_1, a1_2, a1_3⟩ : S32)]).toArray (l0.length + 1) (l0.drop l0.length)) := by
            rw [hw2, ← setCells_flat32 _ _ _ _ _ (by rw [hd0, List.length_drop]; omega), putRowK_self enc32 4 (Sort.ahead w1 1) g 0 _ (holdsK_ahead enc32 4 w1 1 g 0 _ hH1)]
            rfl
          have hls : (lay (l0 ++ [(⟨a1_0, a1_1, a1_2, a1_3⟩ : S32)]).toArray (l0.length + 1) (l0.drop l0.length)).size = l0.length + 1 := by rw [lay_size, hd0]
          have hH2 : HoldsK enc32 4 w2 g 0 (lay (l0 ++ [(⟨a1_0, a1_1, a1_2, a1_3⟩ : S32)]).toArray (l0.length + 1) (l0.drop l0.length)) := by rw [hw4]; exact holdsK_putRowK enc32 4 _ g 0 _ _ (holdsK_ahead enc32 4 w1 1 g 0 _ hH1) (by rw [hls, hd0])
          have bu0 : w2.cell? ⟨gb114, 0, none⟩ = some (.int .i64 a1_0) := by rw [hw4, cell?_putRowK_other _ _ _ _ _ _ _ (by exact hgg)]; exact bv0
          have bu1 : w2.cell? ⟨gb114, 1, none⟩ = some (.int .i64 a1_1) := by rw [hw4, cell?_putRowK_other _ _ _ _ _ _ _ (by exact hgg)]; exact bv1
          have bu2 : w2.cell? ⟨gb114, 2, none⟩ = some (.int .i64 a1_2) := by rw [hw4, cell?_putRowK_other _ _ _ _ _ _ _ (by exact hgg)]; exact bv2
          have bu3 : w2.cell? ⟨gb114, 3, none⟩ = some (.int .i64 a1_3) := by rw [hw4, cell?_putRowK_other _ _ _ _ _ _ _ (by exact hgg)]; exact bv3
          generalize hold : lay (l0 ++ [(⟨a1_0, a1_1, a1_2, a1_3⟩ : S32)]).toArray (l0.length + 1) (l0.drop l0.length) = dl at hw4 hls hH2
          have co0 : w2.cell? ⟨g, l0.length * 4, none⟩ = some (.int .i64 (dl[l0.length]!).f0) := by have := (HoldsK.cell hH2 (i := l0.length) (c := 0) (by omega) (by omega)).1; rw [Nat.zero_add] at this; exact this
          have cf0 : w2.frozen? ⟨g, l0.length * 4, none⟩ = false := by have := (HoldsK.cell hH2 (i := l0.length) (c := 0) (by omega) (by omega)).2; rw [Nat.zero_add] at this; exact this
          have co1 : w2.cell? ⟨g, l0.length * 4 + 1, none⟩ = some (.int .i64 (dl[l0.length]!).f1) := by have := (HoldsK.cell hH2 (i := l0.length) (c := 1) (by omega) (by omega)).1; rw [Nat.zero_add] at this; exact this
          have cf1 : w2.frozen? ⟨g, l0.length * 4 + 1, none⟩ = false := by have := (HoldsK.cell hH2 (i := l0.length) (c := 1) (by omega) (by omega)).2; rw [Nat.zero_add] at this; exact this
          have co2 : w2.cell? ⟨g, l0.length * 4 + 2, none⟩ = some (.int .i64 (dl[l0.length]!).f2) := by have := (HoldsK.cell hH2 (i := l0.length) (c := 2) (by omega) (by omega)).1; rw [Nat.zero_add] at this; exact this
          have cf2 : w2.frozen? ⟨g, l0.length * 4 + 2, none⟩ = false := by have := (HoldsK.cell hH2 (i := l0.length) (c := 2) (by omega) (by omega)).2; rw [Nat.zero_add] at this; exact this
          have co3 : w2.cell? ⟨g, l0.length * 4 + 3, none⟩ = some (.int .i64 (dl[l0.length]!).f3) := by have := (HoldsK.cell hH2 (i := l0.length) (c := 3) (by omega) (by omega)).1; rw [Nat.zero_add] at this; exact this
          have cf3 : w2.frozen? ⟨g, l0.length * 4 + 3, none⟩ = false := by have := (HoldsK.cell hH2 (i := l0.length) (c := 3) (by omega) (by omega)).2; rw [Nat.zero_add] at this; exact this
          generalize dl[l0.length]! = old at co0 co1 co2 co3
          have W4 := Aside0.mk hw4
          have OLD := Aside0.mk hold
          have LS := Aside0.mk hls
          have GR1 := Aside0.mk hgr1
          have HAT := Aside0.mk hat
          have RR1 := Aside0.mk R1
          have mixed : Try.prog.follows .mixedOrders = true := by kernel_rfl
          clear hw2 hw4 hold hls hH2 hgr1 hat R1 OWN1 hown1 hHq hd0 hH1 bw0 bw1 bw2 bw3 hne hgg hsz hlt1 hg1 hbg hw3
          by_cases hcc : cap = l0.length + 1
          · subst hcc
            go_big_region_o
            all_goals go_wp2
            go_ret
            have hst := store_worldK enc32 4 encl32 (i := l0.length) (by have := LS.out; omega) W4.out (⟨a1_0, a1_1, a1_2, a1_3⟩ : S32) 0
            rw [Nat.zero_add] at hst
            have hst2 : (((w2.setCell ⟨g, l0.length * 4, none⟩ (.int .i64 a1_0)).setCell ⟨g, l0.length * 4 + 1, none⟩ (.int .i64 a1_1)).setCell ⟨g, l0.length * 4 + 2, none⟩ (.int .i64 a1_2)).setCell ⟨g, l0.length * 4 + 3, none⟩ (.int .i64 a1_3) = putRowK enc32 4 (Sort.ahead w1 1) g 0 (dl.setIfInBounds l0.length (⟨a1_0, a1_1, a1_2, a1_3⟩ : S32)) := hst
            rw [hst2, ← OLD.out]
            refine ⟨_, rfl, final_own (by omega) RR1.out HR.out, ?_, final_grown HWD.out GR1.out HAT.out⟩
            rcases HAT.out with h | h
            · exact Or.inl (by rw [h]; rfl)
            · refine Or.inr fun k hk => ?_
              have e : g = k := by simpa [Value.ownBlock] using hk
              have h1 := HWD.out.size
              rw [World.size_alloc] at h
              omega
          · have hcc2 : ¬ (cap - (l0.length + 1) = 0) := by omega
            go_big_region_o
            all_goals go_wp2
            go_ret
            have hst := store_worldK enc32 4 encl32 (i := l0.length) (by have := LS.out; omega) W4.out (⟨a1_0, a1_1, a1_2, a1_3⟩ : S32) 0
            rw [Nat.zero_add] at hst
            have hst2 : (((w2.setCell ⟨g, l0.length * 4, none⟩ (.int .i64 a1_0)).setCell ⟨g, l0.length * 4 + 1, none⟩ (.int .i64 a1_1)).setCell ⟨g, l0.length * 4 + 2, none⟩ (.int .i64 a1_2)).setCell ⟨g, l0.length * 4 + 3, none⟩ (.int .i64 a1_3) = putRowK enc32 4 (Sort.ahead w1 1) g 0 (dl.setIfInBounds l0.length (⟨a1_0, a1_1, a1_2, a1_3⟩ : S32)) := hst
            rw [hst2, ← OLD.out]
            refine ⟨_, rfl, final_own (by omega) RR1.out HR.out, ?_, final_grown HWD.out GR1.out HAT.out⟩
            rcases HAT.out with h | h
            · exact Or.inl (by rw [h]; rfl)
            · refine Or.inr fun k hk => ?_
              have e : g = k := by simpa [Value.ownBlock] using hk
              have h1 := HWD.out.size
              rw [World.size_alloc] at h
              omega
end Go.Proofs.Ytehfommdgoffmaa.QObs
