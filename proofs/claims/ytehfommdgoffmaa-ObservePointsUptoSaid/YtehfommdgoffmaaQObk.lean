/- slices.Compact at the facts of observe.Points and observe.Ints, for every row of at most 2^62 facts: the row holds what is kept, then zero values. -/
import Derived.Test.YtehfommdgoffmaaQObsx0
import Derived.Test.YtehfommdgoffmaaRowK
import Derived.Shelf.RegionOpenPlain
import Derived.Shelf.SlicesQ.Reverse
import Derived.Deep.LoopGhost
import Derived.Deep.Draws
import Derived.Sort.WalkB12
namespace Go.Proofs.Ytehfommdgoffmaa.QObs
open Go.RowKit Go.Shelf Go.Lib Go.Sort Go.Proofs.Ytehfommdgoffmaa.RowK Go.Proofs.YtehfommdgoffmaaW.PrintWords Go.Proofs.YtehfommdgoffmaaW.PrintLast Go.Proofs.YtehfommdgoffmaaW.PrintMore
set_option linter.unusedVariables false
set_option linter.unusedSimpArgs false

instance : Inhabited S53 := ⟨z53⟩
instance : DecidableEq S53 := fun x y => decidable_of_iff (x.f0 = y.f0 ∧ x.f1 = y.f1 ∧ x.f2 = y.f2) (by cases x; cases y; simp)
def enc53 (x : S53) : List Value := [.int .i64 x.f0, .int .i64 x.f1, .int .i64 x.f2]
theorem encl53 (x : S53) : (enc53 x).length = 3 := rfl
theorem enc153 (x : S53) : ∀ v ∈ enc53 x, v.oneCell' = true := by
  intro v hv
  simp [enc53] at hv
  rcases hv with rfl | rfl | rfl <;> rfl
theorem isAgg53 (w : World) : (isAgg 53).run Try.prog w = .ok true w := by kernel_rfl
theorem sizeOf53 (w : World) : (Go.sizeOf 53).run Try.prog w = .ok 3 w := by kernel_rfl
theorem zero53 (w : World) : (zeroValue 53).run Try.prog w = .ok (.agg (enc53 z53).toArray) w := by kernel_rfl
theorem eq53 (d : Nat) (w : World) (x y : S53) : (Op.equalIn (d + 2) 53 (.agg (enc53 x).toArray) (.agg (enc53 y).toArray)).run Try.prog w = .ok (decide (x = y)) w := by
  have e : decide (x = y) = (x.f0 == y.f0 && (x.f1 == y.f1 && (x.f2 == y.f2))) := by
    rw [Bool.eq_iff_iff]
    cases x; cases y
    simp
  rw [e]
  simp only [enc53]
  cases h0 : x.f0 == y.f0 <;> cases h1 : x.f1 == y.f1 <;> cases h2 : x.f2 == y.f2 <;> go_simp

set_option maxHeartbeats 4000000 in
set_option maxRecDepth 100000 in
theorem compact31 (blk off cap : Nat) (d : Array S53) (w : World) (hH : HoldsK enc53 3 w blk off d) (hsz : d.size ≤ 4611686018427387904) (hcap : d.size ≤ cap) :
    Calls Try.prog 31 #[.slice (some ⟨blk, off, none⟩) d.size cap] w fun e w' => e = .returned (.slice (some ⟨blk, off, none⟩) (compactUpTo d d.size).length cap) ∧ ∃ q, w' = putRowK enc53 3 (Sort.ahead w q) blk off (compactUpTo d d.size ++ List.replicate (d.size - (compactUpTo d d.size).length) z53).toArray := by
  have mixed : Try.prog.follows .mixedOrders = true := by kernel_rfl
  have aE := isAgg53
  have zE := sizeOf53
  have same : ∀ q, (∀ j, j < d.size → keeps d j = true) → (compactUpTo d d.size).length = d.size ∧ w.drewN q = putRowK enc53 3 (Sort.ahead w q) blk off (compactUpTo d d.size ++ List.replicate (d.size - (compactUpTo d d.size).length) z53).toArray := by
    intro q hall
    have e : compactUpTo d d.size = d.toList := by rw [compactUpTo_all d _ hall, range_map_get]
    rw [e]
    refine ⟨by simp, ?_⟩
    simp only [Array.length_toList, Nat.sub_self, List.replicate_zero, List.append_nil, Array.toArray_toList]
    exact (putRowK_self enc53 3 (Sort.ahead w q) blk off d (holdsK_ahead enc53 3 w q blk off d hH)).symm
  have HS := Aside0.mk same
  clear same
  by_cases h2 : d.size < 2
  · have HH := Aside0.mk hH
    clear hH
    go_enter Try.func31, Try.ntmps31
    go_wp2
    go_ret
    obtain ⟨e1, e2⟩ := HS.out 0 (fun j hj => keeps_lt_one d j (by omega))
    exact ⟨by rw [e1]; rfl, 0, e2⟩
  · have HH := Aside0.mk hH
    have AE := Aside0.mk aE
    have ZE := Aside0.mk zE
    clear hH aE zE
    go_enter Try.func31, Try.ntmps31
    go_wp2
    go_loopg [3] d.size (fun g s3 wr => ∃ k q : Nat, 1 ≤ k ∧ k ≤ d.size ∧ d.size - k ≤ g ∧ s3 = .int .i64 k ∧ wr = w.drewN q ∧ ∀ j, j < k → keeps d j = true)
    case atStart => exact ⟨1, 0, Nat.le_refl _, by omega, by omega, rfl, rfl, keeps_lt_one d⟩
    case round =>
      obtain ⟨k, q, hk1, hk, hg, rfl, rfl, hall⟩ := hrel
      have A := Aside0.mk hall
      clear hall
      by_cases hlt : k < d.size
      · have hHd : HoldsK enc53 3 (w.drewN q).drew blk off d := HH.out
        have hH1 : HoldsK enc53 3 (w.drewN q) blk off d := HH.out
        have ck0 : (w).cell? ⟨blk, off + k * 3, none⟩ = some (.int .i64 (d[k]!).f0) := (HoldsK.cell HH.out (i := k) (c := 0) hlt (by omega)).1
        have ck1 : (w).cell? ⟨blk, off + k * 3 + 1, none⟩ = some (.int .i64 (d[k]!).f1) := (HoldsK.cell HH.out (i := k) (c := 1) hlt (by omega)).1
        have ck2 : (w).cell? ⟨blk, off + k * 3 + 2, none⟩ = some (.int .i64 (d[k]!).f2) := (HoldsK.cell HH.out (i := k) (c := 2) hlt (by omega)).1
        have cp0 : (w).cell? ⟨blk, off + (k - 1) * 3, none⟩ = some (.int .i64 (d[k - 1]!).f0) := (HoldsK.cell HH.out (i := (k - 1)) (c := 0) (by omega) (by omega)).1
        have cp1 : (w).cell? ⟨blk, off + (k - 1) * 3 + 1, none⟩ = some (.int .i64 (d[k - 1]!).f1) := (HoldsK.cell HH.out (i := (k - 1)) (c := 1) (by omega) (by omega)).1
        have cp2 : (w).cell? ⟨blk, off + (k - 1) * 3 + 2, none⟩ = some (.int .i64 (d[k - 1]!).f2) := (HoldsK.cell HH.out (i := (k - 1)) (c := 2) (by omega) (by omega)).1
        have he := fun dd W => eq53 dd W d[k]! d[k - 1]!
        generalize hx : d[k]! = x at ck0 ck1 ck2 he
        generalize hy : d[k - 1]! = y at cp0 cp1 cp2 he
        have B := Aside0.mk (show d[k]! = x ∧ d[k - 1]! = y from ⟨hx, hy⟩)
        simp only [enc53] at he
        clear hx hy hHd hH1
        have aE := AE.out
        have zE := ZE.out
        by_cases hdup : x = y
        · have DD := Aside0.mk hdup
          rw [show decide (x = y) = true from decide_eq_true hdup] at he
          clear hdup
          go_wp2_with fail
          go_big_region_o
          all_goals go_wp2
          clear he ck0 ck1 ck2 cp0 cp1 cp2
          go_loopg [3, 5] d.size (fun g s3 s5 wr => ∃ (kk k2 q2 : Nat) (dk : Array S53), s3 = .int .i64 kk ∧ s5 = .int .i64 k2 ∧ 1 ≤ k2 ∧ k + k2 ≤ d.size ∧ d.size - (k + k2) ≤ g ∧ wr = putRowK enc53 3 (Sort.ahead w q2) blk off dk ∧ CompInv d (k + k2) kk dk)
          case atStart => exact ⟨k, 1, q + 1, d, rfl, rfl, Nat.le_refl _, by omega, by omega, (putRowK_self enc53 3 (Sort.ahead w (q + 1)) blk off d (holdsK_ahead enc53 3 w (q + 1) blk off d HH.out)).symm, CompInv.start A.out (keeps_neg (by omega) (by rw [B.out.1, B.out.2]; exact DD.out))⟩
          case round =>
            obtain ⟨kk, k2, q2, dk, rfl, rfl, h1, hle, hg2, hwr, hI⟩ := hrel
            have hkk := hI.lt
            have hds := hI.size
            have hHk : HoldsK enc53 3 wr blk off dk := by rw [hwr]; exact holdsK_putRowK enc53 3 _ blk off d dk (holdsK_ahead enc53 3 w q2 blk off d HH.out) hds
            have W2 := Aside0.mk hwr
            have I2 := Aside0.mk hI
            clear hwr
            by_cases hlt2 : k + k2 < d.size
            · have gm := hI.high (k + k2) (by omega)
              have gp := hI.high (k + k2 - 1) (by omega)
              have em : off + (k + k2) * 3 = off + k * 3 + k2 * 3 := by omega
              have ep : off + (k + k2 - 1) * 3 = off + k * 3 + (k2 - 1) * 3 := by omega
              have cm0 : wr.cell? ⟨blk, off + k * 3 + k2 * 3, none⟩ = some (.int .i64 (d[k + k2]!).f0) := by have := (HoldsK.cell hHk (i := k + k2) (c := 0) (by omega) (by omega)).1; rw [em, gm] at this; exact this
              have cq0 : wr.cell? ⟨blk, off + k * 3 + (k2 - 1) * 3, none⟩ = some (.int .i64 (d[k + k2 - 1]!).f0) := by have := (HoldsK.cell hHk (i := k + k2 - 1) (c := 0) (by omega) (by omega)).1; rw [ep, gp] at this; exact this
              have co0 : wr.cell? ⟨blk, off + kk * 3, none⟩ = some (.int .i64 (dk[kk]!).f0) := (HoldsK.cell hHk (i := kk) (c := 0) (by omega) (by omega)).1
              have cf0 : wr.frozen? ⟨blk, off + kk * 3, none⟩ = false := (HoldsK.cell hHk (i := kk) (c := 0) (by omega) (by omega)).2
              have cm1 : wr.cell? ⟨blk, off + k * 3 + k2 * 3 + 1, none⟩ = some (.int .i64 (d[k + k2]!).f1) := by have := (HoldsK.cell hHk (i := k + k2) (c := 1) (by omega) (by omega)).1; rw [em, gm] at this; exact this
              have cq1 : wr.cell? ⟨blk, off + k * 3 + (k2 - 1) * 3 + 1, none⟩ = some (.int .i64 (d[k + k2 - 1]!).f1) := by have := (HoldsK.cell hHk (i := k + k2 - 1) (c := 1) (by omega) (by omega)).1; rw [ep, gp] at this; exact this
              have co1 : wr.cell? ⟨blk, off + kk * 3 + 1, none⟩ = some (.int .i64 (dk[kk]!).f1) := (HoldsK.cell hHk (i := kk) (c := 1) (by omega) (by omega)).1
              have cf1 : wr.frozen? ⟨blk, off + kk * 3 + 1, none⟩ = false := (HoldsK.cell hHk (i := kk) (c := 1) (by omega) (by omega)).2
              have cm2 : wr.cell? ⟨blk, off + k * 3 + k2 * 3 + 2, none⟩ = some (.int .i64 (d[k + k2]!).f2) := by have := (HoldsK.cell hHk (i := k + k2) (c := 2) (by omega) (by omega)).1; rw [em, gm] at this; exact this
              have cq2 : wr.cell? ⟨blk, off + k * 3 + (k2 - 1) * 3 + 2, none⟩ = some (.int .i64 (d[k + k2 - 1]!).f2) := by have := (HoldsK.cell hHk (i := k + k2 - 1) (c := 2) (by omega) (by omega)).1; rw [ep, gp] at this; exact this
              have co2 : wr.cell? ⟨blk, off + kk * 3 + 2, none⟩ = some (.int .i64 (dk[kk]!).f2) := (HoldsK.cell hHk (i := kk) (c := 2) (by omega) (by omega)).1
              have cf2 : wr.frozen? ⟨blk, off + kk * 3 + 2, none⟩ = false := (HoldsK.cell hHk (i := kk) (c := 2) (by omega) (by omega)).2
              have he := fun dd W => eq53 dd W d[k + k2]! d[k + k2 - 1]!
              generalize hu : d[k + k2]! = u at cm0 cm1 cm2 he
              generalize hv : d[k + k2 - 1]! = v at cq0 cq1 cq2 he
              generalize hz : dk[kk]! = z at co0 co1 co2
              have C := Aside0.mk (show d[k + k2]! = u ∧ d[k + k2 - 1]! = v from ⟨hu, hv⟩)
              simp only [enc53] at he
              clear hu hv hz hHk hI gm gp em ep
              by_cases huv : u = v
              · rw [show decide (u = v) = true from decide_eq_true huv] at he
                have DV := Aside0.mk huv
                clear huv
                go_wp2_with fail
                go_big_region_o
                all_goals go_wp2
                go_roundg (d.size - (k + (k2 + 1)))
                case measure => omega
                case rel => exact ⟨kk, k2 + 1, q2 + 1, dk, rfl, by go_num, by omega, by omega, Nat.le_refl _, by rw [W2.out]; rfl, I2.out.skip (keeps_neg (by omega) (by rw [C.out.1, C.out.2]; exact DV.out))⟩
              · rw [show decide (u = v) = false from decide_eq_false huv] at he
                have DV := Aside0.mk huv
                clear huv
                go_wp2_with fail
                go_big_region_o
                all_goals go_wp2_with fail
                go_roundg (d.size - (k + (k2 + 1)))
                case measure => omega
                case rel => exact ⟨kk + 1, k2 + 1, q2 + 1, dk.setIfInBounds kk u, by go_num, by go_num, by omega, by omega, Nat.le_refl _, store_worldK enc53 3 encl53 (by omega) W2.out u 1, by have := I2.out.keep hlt2 (keeps_pos (by rw [C.out.1, C.out.2]; exact DV.out)); rwa [C.out.1] at this⟩
            · have hend : k + k2 = d.size := by omega
              have hcl : ∀ ty, (Builtin.clear_ #[26] ty #[.slice (some ⟨blk, off + kk * 3, none⟩) (d.size - kk) (cap - kk)]).run Try.prog wr = .ok (.tuple #[]) (wr.setCells blk (off + kk * 3) (Builtin.zeroCells (enc53 z53).toArray (d.size - kk)).toList) := by
                intro ty
                have hz : ∀ j, j < (d.size - kk) * 3 → (kk * 3 + j) < (flatK enc53 3 dk).size := fun j hj => by rw [size_flatK]; omega
                refine run_clear wr 26 53 ty (.agg (enc53 z53).toArray) Try.underlying26 zero53 (fun v hv => enc153 z53 v (by simpa [Value.cells] using hv)) blk (off + kk * 3) (d.size - kk) (cap - kk) (by omega) (fun j hj => ?_) (fun j hj => ?_)
                · rw [Nat.add_assoc, (hHk (kk * 3 + j) (hz j hj)).1]; rfl
                · rw [Nat.add_assoc]; exact (hHk (kk * 3 + j) (hz j hj)).2
              clear hHk hI
              go_wp2
              go_ret
              have hI := I2.out
              rw [hend] at hI
              refine ⟨by rw [hI.len]; rfl, q2, ?_⟩
              rw [hI.len, ← hI.done z53, ← setCells_zero enc53 3 encl53 _ blk off dk kk (d.size - kk) (by omega) z53, ← W2.out]
        · have DD := Aside0.mk hdup
          rw [show decide (x = y) = false from decide_eq_false hdup] at he
          clear hdup
          go_wp2_with fail
          go_big_region_o
          all_goals go_wp2
          go_roundg (d.size - (k + 1))
          case measure => omega
          case rel =>
            refine ⟨k + 1, q + 1, by omega, by omega, Nat.le_refl _, by go_num, rfl, fun j hj => ?_⟩
            by_cases e : j = k
            · subst e
              exact keeps_pos (by rw [B.out.1, B.out.2]; exact DD.out)
            · exact A.out j (by omega)
      · have : k = d.size := by omega
        subst this
        go_wp2
        go_ret
        obtain ⟨e1, e2⟩ := HS.out q A.out
        exact ⟨by rw [e1]; rfl, q, e2⟩


instance : Inhabited S32 := ⟨z32⟩
instance : DecidableEq S32 := fun x y => decidable_of_iff (x.f0 = y.f0 ∧ x.f1 = y.f1 ∧ x.f2 = y.f2 ∧ x.f3 = y.f3) (by cases x; cases y; simp)
def enc32 (x : S32) : List Value := [.int .i64 x.f0, .int .i64 x.f1, .int .i64 x.f2, .int .i64 x.f3]
theorem encl32 (x : S32) : (enc32 x).length = 4 := rfl
theorem enc132 (x : S32) : ∀ v ∈ enc32 x, v.oneCell' = true := by
  intro v hv
  simp [enc32] at hv
  rcases hv with rfl | rfl | rfl | rfl <;> rfl
theorem isAgg32 (w : World) : (isAgg 32).run Try.prog w = .ok true w := by kernel_rfl
theorem sizeOf32 (w : World) : (Go.sizeOf 32).run Try.prog w = .ok 4 w := by kernel_rfl
theorem zero32 (w : World) : (zeroValue 32).run Try.prog w = .ok (.agg (enc32 z32).toArray) w := by kernel_rfl
theorem eq32 (d : Nat) (w : World) (x y : S32) : (Op.equalIn (d + 2) 32 (.agg (enc32 x).toArray) (.agg (enc32 y).toArray)).run Try.prog w = .ok (decide (x = y)) w := by
  have e : decide (x = y) = (x.f0 == y.f0 && (x.f1 == y.f1 && (x.f2 == y.f2 && (x.f3 == y.f3)))) := by
    rw [Bool.eq_iff_iff]
    cases x; cases y
    simp
  rw [e]
  simp only [enc32]
  cases h0 : x.f0 == y.f0 <;> cases h1 : x.f1 == y.f1 <;> cases h2 : x.f2 == y.f2 <;> cases h3 : x.f3 == y.f3 <;> go_simp

set_option maxHeartbeats 4000000 in
set_option maxRecDepth 100000 in
theorem compact35 (blk off cap : Nat) (d : Array S32) (w : World) (hH : HoldsK enc32 4 w blk off d) (hsz : d.size ≤ 4611686018427387904) (hcap : d.size ≤ cap) :
    Calls Try.prog 35 #[.slice (some ⟨blk, off, none⟩) d.size cap] w fun e w' => e = .returned (.slice (some ⟨blk, off, none⟩) (compactUpTo d d.size).length cap) ∧ ∃ q, w' = putRowK enc32 4 (Sort.ahead w q) blk off (compactUpTo d d.size ++ List.replicate (d.size - (compactUpTo d d.size).length) z32).toArray := by
  have mixed : Try.prog.follows .mixedOrders = true := by kernel_rfl
  have aE := isAgg32
  have zE := sizeOf32
  have same : ∀ q, (∀ j, j < d.size → keeps d j = true) → (compactUpTo d d.size).length = d.size ∧ w.drewN q = putRowK enc32 4 (Sort.ahead w q) blk off (compactUpTo d d.size ++ List.replicate (d.size - (compactUpTo d d.size).length) z32).toArray := by
    intro q hall
    have e : compactUpTo d d.size = d.toList := by rw [compactUpTo_all d _ hall, range_map_get]
    rw [e]
    refine ⟨by simp, ?_⟩
    simp only [Array.length_toList, Nat.sub_self, List.replicate_zero, List.append_nil, Array.toArray_toList]
    exact (putRowK_self enc32 4 (Sort.ahead w q) blk off d (holdsK_ahead enc32 4 w q blk off d hH)).symm
  have HS := Aside0.mk same
  clear same
  by_cases h2 : d.size < 2
  · have HH := Aside0.mk hH
    clear hH
    go_enter Try.func35, Try.ntmps35
    go_wp2
    go_ret
    obtain ⟨e1, e2⟩ := HS.out 0 (fun j hj => keeps_lt_one d j (by omega))
    exact ⟨by rw [e1]; rfl, 0, e2⟩
  · have HH := Aside0.mk hH
    have AE := Aside0.mk aE
    have ZE := Aside0.mk zE
    clear hH aE zE
    go_enter Try.func35, Try.ntmps35
    go_wp2
    go_loopg [3] d.size (fun g s3 wr => ∃ k q : Nat, 1 ≤ k ∧ k ≤ d.size ∧ d.size - k ≤ g ∧ s3 = .int .i64 k ∧ wr = w.drewN q ∧ ∀ j, j < k → keeps d j = true)
    case atStart => exact ⟨1, 0, Nat.le_refl _, by omega, by omega, rfl, rfl, keeps_lt_one d⟩
    case round =>
      obtain ⟨k, q, hk1, hk, hg, rfl, rfl, hall⟩ := hrel
      have A := Aside0.mk hall
      clear hall
      by_cases hlt : k < d.size
      · have hHd : HoldsK enc32 4 (w.drewN q).drew blk off d := HH.out
        have hH1 : HoldsK enc32 4 (w.drewN q) blk off d := HH.out
        have ck0 : (w).cell? ⟨blk, off + k * 4, none⟩ = some (.int .i64 (d[k]!).f0) := (HoldsK.cell HH.out (i := k) (c := 0) hlt (by omega)).1
        have ck1 : (w).cell? ⟨blk, off + k * 4 + 1, none⟩ = some (.int .i64 (d[k]!).f1) := (HoldsK.cell HH.out (i := k) (c := 1) hlt (by omega)).1
        have ck2 : (w).cell? ⟨blk, off + k * 4 + 2, none⟩ = some (.int .i64 (d[k]!).f2) := (HoldsK.cell HH.out (i := k) (c := 2) hlt (by omega)).1
        have ck3 : (w).cell? ⟨blk, off + k * 4 + 3, none⟩ = some (.int .i64 (d[k]!).f3) := (HoldsK.cell HH.out (i := k) (c := 3) hlt (by omega)).1
        have cp0 : (w).cell? ⟨blk, off + (k - 1) * 4, none⟩ = some (.int .i64 (d[k - 1]!).f0) := (HoldsK.cell HH.out (i := (k - 1)) (c := 0) (by omega) (by omega)).1
        have cp1 : (w).cell? ⟨blk, off + (k - 1) * 4 + 1, none⟩ = some (.int .i64 (d[k - 1]!).f1) := (HoldsK.cell HH.out (i := (k - 1)) (c := 1) (by omega) (by omega)).1
        have cp2 : (w).cell? ⟨blk, off + (k - 1) * 4 + 2, none⟩ = some (.int .i64 (d[k - 1]!).f2) := (HoldsK.cell HH.out (i := (k - 1)) (c := 2) (by omega) (by omega)).1
        have cp3 : (w).cell? ⟨blk, off + (k - 1) * 4 + 3, none⟩ = some (.int .i64 (d[k - 1]!).f3) := (HoldsK.cell HH.out (i := (k - 1)) (c := 3) (by omega) (by omega)).1
        have he := fun dd W => eq32 dd W d[k]! d[k - 1]!
        generalize hx : d[k]! = x at ck0 ck1 ck2 ck3 he
        generalize hy : d[k - 1]! = y at cp0 cp1 cp2 cp3 he
        have B := Aside0.mk (show d[k]! = x ∧ d[k - 1]! = y from ⟨hx, hy⟩)
        simp only [enc32] at he
        clear hx hy hHd hH1
        have aE := AE.out
        have zE := ZE.out
        by_cases hdup : x = y
        · have DD := Aside0.mk hdup
          rw [show decide (x = y) = true from decide_eq_true hdup] at he
          clear hdup
          go_wp2_with fail
          go_big_region_o
          all_goals go_wp2
          clear he ck0 ck1 ck2 ck3 cp0 cp1 cp2 cp3
          go_loopg [3, 5] d.size (fun g s3 s5 wr => ∃ (kk k2 q2 : Nat) (dk : Array S32), s3 = .int .i64 kk ∧ s5 = .int .i64 k2 ∧ 1 ≤ k2 ∧ k + k2 ≤ d.size ∧ d.size - (k + k2) ≤ g ∧ wr = putRowK enc32 4 (Sort.ahead w q2) blk off dk ∧ CompInv d (k + k2) kk dk)
          case atStart => exact ⟨k, 1, q + 1, d, rfl, rfl, Nat.le_refl _, by omega, by omega, (putRowK_self enc32 4 (Sort.ahead w (q + 1)) blk off d (holdsK_ahead enc32 4 w (q + 1) blk off d HH.out)).symm, CompInv.start A.out (keeps_neg (by omega) (by rw [B.out.1, B.out.2]; exact DD.out))⟩
          case round =>
            obtain ⟨kk, k2, q2, dk, rfl, rfl, h1, hle, hg2, hwr, hI⟩ := hrel
            have hkk := hI.lt
            have hds := hI.size
            have hHk : HoldsK enc32 4 wr blk off dk := by rw [hwr]; exact holdsK_putRowK enc32 4 _ blk off d dk (holdsK_ahead enc32 4 w q2 blk off d HH.out) hds
            have W2 := Aside0.mk hwr
            have I2 := Aside0.mk hI
            clear hwr
            by_cases hlt2 : k + k2 < d.size
            · have gm := hI.high (k + k2) (by omega)
              have gp := hI.high (k + k2 - 1) (by omega)
              have em : off + (k + k2) * 4 = off + k * 4 + k2 * 4 := by omega
              have ep : off + (k + k2 - 1) * 4 = off + k * 4 + (k2 - 1) * 4 := by omega
              have cm0 : wr.cell? ⟨blk, off + k * 4 + k2 * 4, none⟩ = some (.int .i64 (d[k + k2]!).f0) := by have := (HoldsK.cell hHk (i := k + k2) (c := 0) (by omega) (by omega)).1; rw [em, gm] at this; exact this
              have cq0 : wr.cell? ⟨blk, off + k * 4 + (k2 - 1) * 4, none⟩ = some (.int .i64 (d[k + k2 - 1]!).f0) := by have := (HoldsK.cell hHk (i := k + k2 - 1) (c := 0) (by omega) (by omega)).1; rw [ep, gp] at this; exact this
              have co0 : wr.cell? ⟨blk, off + kk * 4, none⟩ = some (.int .i64 (dk[kk]!).f0) := (HoldsK.cell hHk (i := kk) (c := 0) (by omega) (by omega)).1
              have cf0 : wr.frozen? ⟨blk, off + kk * 4, none⟩ = false := (HoldsK.cell hHk (i := kk) (c := 0) (by omega) (by omega)).2
              have cm1 : wr.cell? ⟨blk, off + k * 4 + k2 * 4 + 1, none⟩ = some (.int .i64 (d[k + k2]!).f1) := by have := (HoldsK.cell hHk (i := k + k2) (c := 1) (by omega) (by omega)).1; rw [em, gm] at this; exact this
              have cq1 : wr.cell? ⟨blk, off + k * 4 + (k2 - 1) * 4 + 1, none⟩ = some (.int .i64 (d[k + k2 - 1]!).f1) := by have := (HoldsK.cell hHk (i := k + k2 - 1) (c := 1) (by omega) (by omega)).1; rw [ep, gp] at this; exact this
              have co1 : wr.cell? ⟨blk, off + kk * 4 + 1, none⟩ = some (.int .i64 (dk[kk]!).f1) := (HoldsK.cell hHk (i := kk) (c := 1) (by omega) (by omega)).1
              have cf1 : wr.frozen? ⟨blk, off + kk * 4 + 1, none⟩ = false := (HoldsK.cell hHk (i := kk) (c := 1) (by omega) (by omega)).2
              have cm2 : wr.cell? ⟨blk, off + k * 4 + k2 * 4 + 2, none⟩ = some (.int .i64 (d[k + k2]!).f2) := by have := (HoldsK.cell hHk (i := k + k2) (c := 2) (by omega) (by omega)).1; rw [em, gm] at this; exact this
              have cq2 : wr.cell? ⟨blk, off + k * 4 + (k2 - 1) * 4 + 2, none⟩ = some (.int .i64 (d[k + k2 - 1]!).f2) := by have := (HoldsK.cell hHk (i := k + k2 - 1) (c := 2) (by omega) (by omega)).1; rw [ep, gp] at this; exact this
              have co2 : wr.cell? ⟨blk, off + kk * 4 + 2, none⟩ = some (.int .i64 (dk[kk]!).f2) := (HoldsK.cell hHk (i := kk) (c := 2) (by omega) (by omega)).1
              have cf2 : wr.frozen? ⟨blk, off + kk * 4 + 2, none⟩ = false := (HoldsK.cell hHk (i := kk) (c := 2) (by omega) (by omega)).2
              have cm3 : wr.cell? ⟨blk, off + k * 4 + k2 * 4 + 3, none⟩ = some (.int .i64 (d[k + k2]!).f3) := by have := (HoldsK.cell hHk (i := k + k2) (c := 3) (by omega) (by omega)).1; rw [em, gm] at this; exact this
              have cq3 : wr.cell? ⟨blk, off + k * 4 + (k2 - 1) * 4 + 3, none⟩ = some (.int .i64 (d[k + k2 - 1]!).f3) := by have := (HoldsK.cell hHk (i := k + k2 - 1) (c := 3) (by omega) (by omega)).1; rw [ep, gp] at this; exact this
              have co3 : wr.cell? ⟨blk, off + kk * 4 + 3, none⟩ = some (.int .i64 (dk[kk]!).f3) := (HoldsK.cell hHk (i := kk) (c := 3) (by omega) (by omega)).1
              have cf3 : wr.frozen? ⟨blk, off + kk * 4 + 3, none⟩ = false := (HoldsK.cell hHk (i := kk) (c := 3) (by omega) (by omega)).2
              have he := fun dd W => eq32 dd W d[k + k2]! d[k + k2 - 1]!
              generalize hu : d[k + k2]! = u at cm0 cm1 cm2 cm3 he
              generalize hv : d[k + k2 - 1]! = v at cq0 cq1 cq2 cq3 he
              generalize hz : dk[kk]! = z at co0 co1 co2 co3
              have C := Aside0.mk (show d[k + k2]! = u ∧ d[k + k2 - 1]! = v from ⟨hu, hv⟩)
              simp only [enc32] at he
              clear hu hv hz hHk hI gm gp em ep
              by_cases huv : u = v
              · rw [show decide (u = v) = true from decide_eq_true huv] at he
                have DV := Aside0.mk huv
                clear huv
                go_wp2_with fail
                go_big_region_o
                all_goals go_wp2
                go_roundg (d.size - (k + (k2 + 1)))
                case measure => omega
                case rel => exact ⟨kk, k2 + 1, q2 + 1, dk, rfl, by go_num, by omega, by omega, Nat.le_refl _, by rw [W2.out]; rfl, I2.out.skip (keeps_neg (by omega) (by rw [C.out.1, C.out.2]; exact DV.out))⟩
              · rw [show decide (u = v) = false from decide_eq_false huv] at he
                have DV := Aside0.mk huv
                clear huv
                go_wp2_with fail
                go_big_region_o
                all_goals go_wp2_with fail
                go_roundg (d.size - (k + (k2 + 1)))
                case measure => omega
                case rel => exact ⟨kk + 1, k2 + 1, q2 + 1, dk.setIfInBounds kk u, by go_num, by go_num, by omega, by omega, Nat.le_refl _, store_worldK enc32 4 encl32 (by omega) W2.out u 1, by have := I2.out.keep hlt2 (keeps_pos (by rw [C.out.1, C.out.2]; exact DV.out)); rwa [C.out.1] at this⟩
            · have hend : k + k2 = d.size := by omega
              have hcl : ∀ ty, (Builtin.clear_ #[29] ty #[.slice (some ⟨blk, off + kk * 4, none⟩) (d.size - kk) (cap - kk)]).run Try.prog wr = .ok (.tuple #[]) (wr.setCells blk (off + kk * 4) (Builtin.zeroCells (enc32 z32).toArray (d.size - kk)).toList) := by
                intro ty
                have hz : ∀ j, j < (d.size - kk) * 4 → (kk * 4 + j) < (flatK enc32 4 dk).size := fun j hj => by rw [size_flatK]; omega
                refine run_clear wr 29 32 ty (.agg (enc32 z32).toArray) Try.underlying29 zero32 (fun v hv => enc132 z32 v (by simpa [Value.cells] using hv)) blk (off + kk * 4) (d.size - kk) (cap - kk) (by omega) (fun j hj => ?_) (fun j hj => ?_)
                · rw [Nat.add_assoc, (hHk (kk * 4 + j) (hz j hj)).1]; rfl
                · rw [Nat.add_assoc]; exact (hHk (kk * 4 + j) (hz j hj)).2
              clear hHk hI
              go_wp2
              go_ret
              have hI := I2.out
              rw [hend] at hI
              refine ⟨by rw [hI.len]; rfl, q2, ?_⟩
              rw [hI.len, ← hI.done z32, ← setCells_zero enc32 4 encl32 _ blk off dk kk (d.size - kk) (by omega) z32, ← W2.out]
        · have DD := Aside0.mk hdup
          rw [show decide (x = y) = false from decide_eq_false hdup] at he
          clear hdup
          go_wp2_with fail
          go_big_region_o
          all_goals go_wp2
          go_roundg (d.size - (k + 1))
          case measure => omega
          case rel =>
            refine ⟨k + 1, q + 1, by omega, by omega, Nat.le_refl _, by go_num, rfl, fun j hj => ?_⟩
            by_cases e : j = k
            · subst e
              exact keeps_pos (by rw [B.out.1, B.out.2]; exact DD.out)
            · exact A.out j (by omega)
      · have : k = d.size := by omega
        subst this
        go_wp2
        go_ret
        obtain ⟨e1, e2⟩ := HS.out q A.out
        exact ⟨by rw [e1]; rfl, q, e2⟩

end Go.Proofs.Ytehfommdgoffmaa.QObs
