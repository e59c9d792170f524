/- The contracts of the functions of xform and of dataflowref32: each Go function returns what the Lean function of its name says, for whatever numbers, and changes nothing that was there. -/
import Derived.Test.YtnicekdbpjalgaaRows
import Derived.Test.YtnicekdbpjalgaaPlain
import Derived.WalkKit
import Derived.WalkSpells
import Derived.WalkLawsBesides
import Derived.Laws.StructEq
import Derived.Deep.RegionHeld3
import Derived.Deep.MidRow
namespace Go.Proofs.Ytnicekdbpjalgaa
open Go.RowKit
set_option linter.unusedVariables false
set_option linter.unusedSimpArgs false
theorem bcell {W w1 : World} (hb : Below W.heap.size W w1) : (∀ b o, b < W.heap.size → w1.cell? ⟨b, o, none⟩ = W.cell? ⟨b, o, none⟩) ∧ (∀ b o, b < W.heap.size → w1.frozen? ⟨b, o, none⟩ = W.frozen? ⟨b, o, none⟩) :=
  ⟨fun b o h => hb.cell (p := ⟨b, o, none⟩) h, fun b o h => hb.frozen (p := ⟨b, o, none⟩) h⟩
theorem bstep {B : Nat} {w W w1 : World} (hb : Below W.heap.size W w1) (h : Below B w W) (hB : B ≤ W.heap.size) : Below B w w1 := h.trans (hb.mono hB)
def cellv (w : World) (b o : Nat) : Value := (w.cell? ⟨b, o, none⟩).getD undef
theorem cellv_of {w : World} (b o : Nat) {v : Value} (h : w.cell? ⟨b, o, none⟩ = some v) : w.cell? ⟨b, o, none⟩ = some (cellv w b o) := by rw [cellv, h]; rfl
theorem cellv_below {w w1 : World} {b o : Nat} (hb : Below w.heap.size w w1) (hl : b < w.heap.size) (h : w.cell? ⟨b, o, none⟩ = some (cellv w b o)) : w1.cell? ⟨b, o, none⟩ = some (cellv w1 b o) :=
  cellv_of b o ((hb.cell (p := ⟨b, o, none⟩) hl).trans h)
theorem cellv_set {w : World} {b o : Nat} {a : Addr} {v : Value} (h : w.cell? ⟨b, o, none⟩ = some (cellv w b o)) : (w.setCell a v).cell? ⟨b, o, none⟩ = some (cellv (w.setCell a v) b o) := by
  by_cases e : (⟨b, o, none⟩ : Addr) = a
  · subst e
    exact cellv_of b o (World.cell?_setCell_same _ _ _ h)
  · exact cellv_of b o ((World.cell?_setCell_other _ _ _ _ (fun h => e h.symm)).trans h)
theorem kc_alloc {w : World} {a : Addr} {v : Value} {x : Obj} (h : w.cell? a = some v) : (w.alloc x).cell? a = some v := (World.cell?_alloc_lt _ _ _ (World.block_lt_of_cell? w a h)).trans h
theorem cellv_alloc {w : World} {b o : Nat} {x : Obj} (h : w.cell? ⟨b, o, none⟩ = some (cellv w b o)) : (w.alloc x).cell? ⟨b, o, none⟩ = some (cellv (w.alloc x) b o) := cellv_of b o (kc_alloc h)
theorem kc_set {w : World} {a p : Addr} {v u : Value} (hne : p ≠ a) (h : w.cell? a = some v) : (w.setCell p u).cell? a = some v := (World.cell?_setCell_other _ _ _ _ hne).trans h
theorem kf_alloc {w : World} {b o : Nat} {x : Obj} (hs : b < w.heap.size) (h : w.frozen? ⟨b, o, none⟩ = false) : (w.alloc x).frozen? ⟨b, o, none⟩ = false := by
  rw [← h]; exact World.frozen?_of_block (w := w) (a := ⟨b, o, none⟩) (Below.heap_alloc w x b hs)
theorem kf_set {w : World} {a p : Addr} {u : Value} (h : w.frozen? a = false) : (w.setCell p u).frozen? a = false := by rw [World.frozen?_setCell]; exact h
theorem kc_realloc {w : World} {a : Addr} {v : Value} {x y : Obj} (hl : a.block < w.heap.size) (h : (w.alloc x).cell? a = some v) : (w.alloc y).cell? a = some v := by
  rw [World.cell?_alloc_lt _ _ _ hl] at h ⊢; exact h
theorem kf_realloc {w : World} {b o : Nat} {x y : Obj} (hl : b < w.heap.size) (h : (w.alloc x).frozen? ⟨b, o, none⟩ = false) : (w.alloc y).frozen? ⟨b, o, none⟩ = false := by
  rw [← h]; exact World.frozen?_of_block (w := w.alloc x) (a := ⟨b, o, none⟩) ((Below.heap_alloc w y b hl).trans (Below.heap_alloc w x b hl).symm)
theorem kb_realloc {B : Nat} {a w : World} {x y : Obj} (hl : B ≤ w.heap.size) (h : Below B a (w.alloc x)) : Below B a (w.alloc y) :=
  ⟨h.os, h.tape, h.output, by have := h.size; simpa using this, fun k hk => by rw [Below.heap_alloc w y k (by omega), ← Below.heap_alloc w x k (by omega)]; exact h.block k hk⟩
theorem cong_b {a b : Bool} (h : a = b) : Ending.returned (.bool a) = Ending.returned (.bool b) := by rw [h]
theorem bx2 {W w1 : World} {a b : Value} {t : TypeId} (hb : Below (W.alloc (.cells #[a, b] t)).heap.size (W.alloc (.cells #[a, b] t)) w1) : w1.cell? ⟨W.heap.size, 0, none⟩ = some a ∧ w1.cell? ⟨W.heap.size, 1, none⟩ = some b ∧ w1.frozen? ⟨W.heap.size, 0, none⟩ = false ∧ w1.frozen? ⟨W.heap.size, 1, none⟩ = false ∧ W.heap.size < w1.heap.size :=
  ⟨(hb.cell (p := ⟨W.heap.size, 0, none⟩) (by simp)).trans (by go_simp), (hb.cell (p := ⟨W.heap.size, 1, none⟩) (by simp)).trans (by go_simp), (hb.frozen (p := ⟨W.heap.size, 0, none⟩) (by simp)).trans (by go_simp), (hb.frozen (p := ⟨W.heap.size, 1, none⟩) (by simp)).trans (by go_simp), by have := hb.size; simp at this; omega⟩
theorem bx3 {W w1 : World} {a b c : Value} {t : TypeId} (hb : Below (W.alloc (.cells #[a, b, c] t)).heap.size (W.alloc (.cells #[a, b, c] t)) w1) : w1.cell? ⟨W.heap.size, 0, none⟩ = some a ∧ w1.cell? ⟨W.heap.size, 1, none⟩ = some b ∧ w1.cell? ⟨W.heap.size, 2, none⟩ = some c ∧ w1.frozen? ⟨W.heap.size, 0, none⟩ = false ∧ w1.frozen? ⟨W.heap.size, 1, none⟩ = false ∧ w1.frozen? ⟨W.heap.size, 2, none⟩ = false ∧ W.heap.size < w1.heap.size :=
  ⟨(hb.cell (p := ⟨W.heap.size, 0, none⟩) (by simp)).trans (by go_simp), (hb.cell (p := ⟨W.heap.size, 1, none⟩) (by simp)).trans (by go_simp), (hb.cell (p := ⟨W.heap.size, 2, none⟩) (by simp)).trans (by go_simp), (hb.frozen (p := ⟨W.heap.size, 0, none⟩) (by simp)).trans (by go_simp), (hb.frozen (p := ⟨W.heap.size, 1, none⟩) (by simp)).trans (by go_simp), (hb.frozen (p := ⟨W.heap.size, 2, none⟩) (by simp)).trans (by go_simp), by have := hb.size; simp at this; omega⟩
theorem bx2d {W w1 : World} {a b : Value} {t : TypeId} (hb : Below (W.alloc (.cells #[a, b] t)).drew.heap.size (W.alloc (.cells #[a, b] t)).drew w1) : w1.cell? ⟨W.heap.size, 0, none⟩ = some a ∧ w1.cell? ⟨W.heap.size, 1, none⟩ = some b ∧ w1.frozen? ⟨W.heap.size, 0, none⟩ = false ∧ w1.frozen? ⟨W.heap.size, 1, none⟩ = false ∧ W.heap.size < w1.heap.size :=
  ⟨(hb.cell (p := ⟨W.heap.size, 0, none⟩) (by simp)).trans (by go_simp), (hb.cell (p := ⟨W.heap.size, 1, none⟩) (by simp)).trans (by go_simp), (hb.frozen (p := ⟨W.heap.size, 0, none⟩) (by simp)).trans (by go_simp), (hb.frozen (p := ⟨W.heap.size, 1, none⟩) (by simp)).trans (by go_simp), by have := hb.size; simp at this; omega⟩
theorem bx3d {W w1 : World} {a b c : Value} {t : TypeId} (hb : Below (W.alloc (.cells #[a, b, c] t)).drew.heap.size (W.alloc (.cells #[a, b, c] t)).drew w1) : w1.cell? ⟨W.heap.size, 0, none⟩ = some a ∧ w1.cell? ⟨W.heap.size, 1, none⟩ = some b ∧ w1.cell? ⟨W.heap.size, 2, none⟩ = some c ∧ w1.frozen? ⟨W.heap.size, 0, none⟩ = false ∧ w1.frozen? ⟨W.heap.size, 1, none⟩ = false ∧ w1.frozen? ⟨W.heap.size, 2, none⟩ = false ∧ W.heap.size < w1.heap.size :=
  ⟨(hb.cell (p := ⟨W.heap.size, 0, none⟩) (by simp)).trans (by go_simp), (hb.cell (p := ⟨W.heap.size, 1, none⟩) (by simp)).trans (by go_simp), (hb.cell (p := ⟨W.heap.size, 2, none⟩) (by simp)).trans (by go_simp), (hb.frozen (p := ⟨W.heap.size, 0, none⟩) (by simp)).trans (by go_simp), (hb.frozen (p := ⟨W.heap.size, 1, none⟩) (by simp)).trans (by go_simp), (hb.frozen (p := ⟨W.heap.size, 2, none⟩) (by simp)).trans (by go_simp), by have := hb.size; simp at this; omega⟩
theorem setCell_val {w : World} {p : Addr} {v u : Value} (h : (w.setCell p v).cell? p = some u) : u = v := by
  cases hc : w.cell? p with
  | some c => rw [World.cell?_setCell_same _ _ _ hc] at h; simpa using h.symm
  | none =>
    exfalso
    unfold World.cell? World.setCell at h
    unfold World.cell? at hc
    simp only [Array.getElem?_modify, if_true] at h
    revert h hc
    cases w.heap[p.block]? with
    | none => simp
    | some o =>
      cases o with
      | cells c t f =>
        by_cases hs : p.spot.isSome = true
        · simp [hs]
        · by_cases ho : p.off < c.size <;> simp [hs, ho]
      | _ => simp
theorem two_set {w : World} {b : Nat} {x y u v : Value} (h0 : ((w.setCell ⟨b, 0, none⟩ x).setCell ⟨b, 1, none⟩ y).cell? ⟨b, 0, none⟩ = some u) (h1 : ((w.setCell ⟨b, 0, none⟩ x).setCell ⟨b, 1, none⟩ y).cell? ⟨b, 1, none⟩ = some v) :
    ((w.setCell ⟨b, 0, none⟩ x).setCell ⟨b, 1, none⟩ y).cell? ⟨b, 0, none⟩ = some x ∧ ((w.setCell ⟨b, 0, none⟩ x).setCell ⟨b, 1, none⟩ y).cell? ⟨b, 1, none⟩ = some y := by
  refine ⟨?_, setCell_val h1 ▸ h1⟩
  rw [World.cell?_setCell_other _ _ _ _ (by simp)] at h0 ⊢
  exact setCell_val h0 ▸ h0
/-! ### what they compute -/
theorem eqA26 (d : Nat) (w : World) (x0 y0 x1 y1 : Int) :
    (Op.equalIn (d + 2) 26 (.agg #[.int .i64 x0, .int .i64 x1]) (.agg #[.int .i64 y0, .int .i64 y1])).run Try.prog w = .ok (x0 == y0 && (x1 == y1)) w := by
  cases h0 : x0 == y0 <;> cases h1 : x1 == y1 <;> go_simp
theorem eqA23 (d : Nat) (w : World) (x0 y0 x1 y1 x2 y2 : Int) :
    (Op.equalIn (d + 2) 23 (.agg #[.int .i64 x0, .int .i64 x1, .int .i64 x2]) (.agg #[.int .i64 y0, .int .i64 y1, .int .i64 y2])).run Try.prog w = .ok (x0 == y0 && (x1 == y1 && (x2 == y2))) w := by
  cases h0 : x0 == y0 <;> cases h1 : x1 == y1 <;> cases h2 : x2 == y2 <;> go_simp
attribute [local go_sem high] eqA23 eqA26
def chkR (a b c : Int) : Int := if a < 0 ∨ 4 < a then 12 else if (b ≠ 0 ∧ a ≠ 2 ∧ a ≠ 3) ∨ (c ≠ 0 ∧ a ≠ 1 ∧ a ≠ 3) then 1 else 0
def cvR (a n : Int) : Int := if a < 0 ∨ 2 < a then 12 else if n ≠ 0 ∧ a ≠ 1 then 1 else 0
def mvR (a n b m : Int) : Int × Int := if a = 0 then (b, m) else if b = 0 then (a, n) else if (a == b && (n == m)) = true then (a, n) else (2, 0)
def sumR (a n b : Int) : Int × Int := if a = 1 then (1, wrap64 (n + b)) else (a, n)
def apR (a b c k n : Int) : Int × Int := if k = 0 then (k, n) else if a = 1 then (1, c) else if a = 2 then sumR k n b else if a = 3 then mvR (sumR k n b).1 (sumR k n b).2 1 c else if a = 4 then (2, 0) else (0, 0)
def apS (a b c k n : Int) : Int × Int := if k = 0 then (k, n) else if a = 0 then (0, 0) else if a = 1 then (1, c) else if a = 2 then sumR k n b else if a = 3 then mvR (sumR k n b).1 (sumR k n b).2 1 c else (2, 0)
def foR (a b c n : Int) : Int × Int × Int := if (apR a b c 1 n).1 = 1 then (1, 0, (apR a b c 1 n).2) else if (apR a b c 1 n).1 = 2 then (4, 0, 0) else (0, 0, 0)
def coR (a b c a' b' c' : Int) : Int × Int × Int :=
  if a = 0 ∨ a' = 0 then (0, 0, 0) else if a' = 1 ∨ a' = 4 then (a', b', c') else if a = 1 then foR a' b' c' c else if a = 4 then (a, b, c)
  else if a = 2 then (a', wrap64 (b' + b), c') else if (foR a' b' c' c).1 = 1 then (3, wrap64 (b + wrap64 ((foR a' b' c' c).2.2 - c)), (foR a' b' c' c).2.2) else (4, 0, 0)
def coS (a b c a' b' c' : Int) : Int × Int × Int :=
  if a = 0 ∨ a' = 0 then (0, 0, 0) else if a' = 1 ∨ a' = 4 then (a', b', c') else if a = 4 then (a, b, c)
  else if a = 1 then (if (apS a' b' c' 1 c).1 = 1 then (1, 0, (apS a' b' c' 1 c).2) else (4, 0, 0))
  else if a = 2 then (a', wrap64 (b + b'), c') else if (apS a' b' c' 1 c).1 = 1 then (3, wrap64 (b + b'), (apS a' b' c' 1 c).2) else (4, 0, 0)
def meT (a b c a' b' c' : Int) : Int × Int × Int :=
  if a = 1 ∧ a' = 2 then (3, b', c) else if (a = 1 ∧ a' = 3 ∧ c = c') ∨ (a = 2 ∧ a' = 3 ∧ b = b') then (a', b', c') else (4, 0, 0)
def meR (a b c a' b' c' : Int) : Int × Int × Int :=
  if (a == a' && (b == b' && (c == c'))) = true ∨ a' = 0 then (a, b, c) else if a = 0 then (a', b', c') else if a' < a then meT a' b' c' a b c else meT a b c a' b' c'
def meS (a b c a' b' c' : Int) : Int × Int × Int :=
  if a = 0 then (a', b', c') else if a' = 0 ∨ (a == a' && (b == b' && (c == c'))) = true then (a, b, c) else if a' < a then meT a' b' c' a b c else meT a b c a' b' c'
def stR (a : Int) : Int := if a = 0 then 3 else if a = 1 ∨ a = 2 then 2 else if a = 3 then 1 else 0
def beR (a n b m : Int) : Bool := (mvR a n b m).1 == a && ((mvR a n b m).2 == n)
def beS (a n b m : Int) : Bool := (a == b && (n == m)) || (a == 2 || b == 0)
def rightR (a b c a' b' c' a'' b'' c'' k n l m : Int) : Bool := chkR a b c == 0 && (chkR a' b' c' == 0 && (chkR a'' b'' c'' == 0 && (cvR k n == 0 && (cvR l m == 0))))

set_option maxHeartbeats 400000 in
theorem bottom  (w : World) : Calls Try.prog 32 #[] w fun e w' => e = .returned (.agg #[.int .i64 2, .int .i64 0]) ∧ Below w.heap.size w w' := by
  go_enter Try.func32, Try.ntmps32
  go_wp2
  all_goals exact bodyPost_ret (by first | (simp [results, Try.results32, go_sem]; done) | (simp [results, Try.results32, go_sem]; rfl)) rfl ⟨by first | rfl | (simp_all []; done) | (simp_all []; omega) | grind [], (by repeat (first | exact Below.refl _ _ | refine Below.setCell ?_ (by first | (simp; done) | (simp; omega) | omega) _ | refine Below.alloc ?_ (by first | (simp; done) | (simp; omega) | omega) _ | (refine bstep (by assumption) ?_ (by first | (simp; done) | (simp; omega) | omega))))⟩
set_option maxHeartbeats 400000 in
theorem bottomS  (w : World) : Calls Try.prog 34 #[] w fun e w' => e = .returned (.agg #[.int .i64 2, .int .i64 0]) ∧ Below w.heap.size w w' := by
  go_enter Try.func34, Try.ntmps34
  go_wp2
  all_goals exact bodyPost_ret (by first | (simp [results, Try.results34, go_sem]; done) | (simp [results, Try.results34, go_sem]; rfl)) rfl ⟨by first | rfl | (simp_all []; done) | (simp_all []; omega) | grind [], (by repeat (first | exact Below.refl _ _ | refine Below.setCell ?_ (by first | (simp; done) | (simp; omega) | omega) _ | refine Below.alloc ?_ (by first | (simp; done) | (simp; omega) | omega) _ | (refine bstep (by assumption) ?_ (by first | (simp; done) | (simp; omega) | omega))))⟩
set_option maxHeartbeats 400000 in
theorem constant (n : Int) (w : World) : Calls Try.prog 30 #[.int .i64 n] w fun e w' => e = .returned (.agg #[.int .i64 1, .int .i64 n]) ∧ Below w.heap.size w w' := by
  go_enter Try.func30, Try.ntmps30
  go_wp2
  all_goals exact bodyPost_ret (by first | (simp [results, Try.results30, go_sem]; done) | (simp [results, Try.results30, go_sem]; rfl)) rfl ⟨by first | rfl | (simp_all []; done) | (simp_all []; omega) | grind [], (by repeat (first | exact Below.refl _ _ | refine Below.setCell ?_ (by first | (simp; done) | (simp; omega) | omega) _ | refine Below.alloc ?_ (by first | (simp; done) | (simp; omega) | omega) _ | (refine bstep (by assumption) ?_ (by first | (simp; done) | (simp; omega) | omega))))⟩
set_option maxHeartbeats 400000 in
theorem constantS (n : Int) (w : World) : Calls Try.prog 29 #[.int .i64 n] w fun e w' => e = .returned (.agg #[.int .i64 1, .int .i64 n]) ∧ Below w.heap.size w w' := by
  go_enter Try.func29, Try.ntmps29
  go_wp2
  all_goals exact bodyPost_ret (by first | (simp [results, Try.results29, go_sem]; done) | (simp [results, Try.results29, go_sem]; rfl)) rfl ⟨by first | rfl | (simp_all []; done) | (simp_all []; omega) | grind [], (by repeat (first | exact Below.refl _ _ | refine Below.setCell ?_ (by first | (simp; done) | (simp; omega) | omega) _ | refine Below.alloc ?_ (by first | (simp; done) | (simp; omega) | omega) _ | (refine bstep (by assumption) ?_ (by first | (simp; done) | (simp; omega) | omega))))⟩
set_option maxHeartbeats 4000000 in
theorem CheckC (a0 a1 a2 : Int) (w : World) : Calls Try.prog 18 #[.agg #[.int .i64 a0, .int .i64 a1, .int .i64 a2]] w fun e w' => e = .returned (.int .i64 (chkR a0 a1 a2)) ∧ Below w.heap.size w w' := by
  go_enter Try.func18, Try.ntmps18
  go_wp2
  all_goals (go_ret; exact ⟨by first | rfl | (simp_all [chkR]; done) | (simp_all [chkR]; omega) | (exact cong_b (by grind [chkR])), (by repeat (first | exact Below.refl _ _ | refine Below.setCell ?_ (by first | (simp; done) | (simp; omega) | omega) _ | refine Below.alloc ?_ (by first | (simp; done) | (simp; omega) | omega) _ | (refine bstep (by assumption) ?_ (by first | (simp; done) | (simp; omega) | omega))))⟩)
set_option maxHeartbeats 4000000 in
theorem CheckS (a0 a1 a2 : Int) (w : World) : Calls Try.prog 25 #[.agg #[.int .i64 a0, .int .i64 a1, .int .i64 a2]] w fun e w' => e = .returned (.int .i64 (chkR a0 a1 a2)) ∧ Below w.heap.size w w' := by
  go_enter Try.func25, Try.ntmps25
  go_wp2
  all_goals (go_ret; exact ⟨by first | rfl | (simp_all [chkR]; done) | (simp_all [chkR]; omega) | (exact cong_b (by grind [chkR])), (by repeat (first | exact Below.refl _ _ | refine Below.setCell ?_ (by first | (simp; done) | (simp; omega) | omega) _ | refine Below.alloc ?_ (by first | (simp; done) | (simp; omega) | omega) _ | (refine bstep (by assumption) ?_ (by first | (simp; done) | (simp; omega) | omega))))⟩)
set_option maxHeartbeats 1000000 in
theorem CheckValueC (a0 a1 : Int) (w : World) : Calls Try.prog 26 #[.agg #[.int .i64 a0, .int .i64 a1]] w fun e w' => e = .returned (.int .i64 (cvR a0 a1)) ∧ Below w.heap.size w w' := by
  go_enter Try.func26, Try.ntmps26
  go_wp2
  all_goals (go_ret; exact ⟨by first | rfl | (simp_all [cvR]; done) | (simp_all [cvR]; omega) | (exact cong_b (by grind [cvR])), (by repeat (first | exact Below.refl _ _ | refine Below.setCell ?_ (by first | (simp; done) | (simp; omega) | omega) _ | refine Below.alloc ?_ (by first | (simp; done) | (simp; omega) | omega) _ | (refine bstep (by assumption) ?_ (by first | (simp; done) | (simp; omega) | omega))))⟩)
set_option maxHeartbeats 1000000 in
theorem CheckValueS (a0 a1 : Int) (w : World) : Calls Try.prog 27 #[.agg #[.int .i64 a0, .int .i64 a1]] w fun e w' => e = .returned (.int .i64 (cvR a0 a1)) ∧ Below w.heap.size w w' := by
  go_enter Try.func27, Try.ntmps27
  go_wp2
  all_goals (go_ret; exact ⟨by first | rfl | (simp_all [cvR]; done) | (simp_all [cvR]; omega) | (exact cong_b (by grind [cvR])), (by repeat (first | exact Below.refl _ _ | refine Below.setCell ?_ (by first | (simp; done) | (simp; omega) | omega) _ | refine Below.alloc ?_ (by first | (simp; done) | (simp; omega) | omega) _ | (refine bstep (by assumption) ?_ (by first | (simp; done) | (simp; omega) | omega))))⟩)
set_option maxHeartbeats 400000 in
theorem sumC (a0 a1 b : Int) (w : World) : Calls Try.prog 31 #[.agg #[.int .i64 a0, .int .i64 a1], .int .i64 b] w fun e w' => e = .returned (.agg #[.int .i64 (sumR a0 a1 b).1, .int .i64 (sumR a0 a1 b).2]) ∧ Below w.heap.size w w' := by
  go_enter Try.func31, Try.ntmps31
  go_wp2
  all_goals exact bodyPost_ret (by first | (simp [results, Try.results31, go_sem]; done) | (simp [results, Try.results31, go_sem]; rfl)) rfl ⟨by first | rfl | (simp_all [sumR]; done) | (simp_all [sumR]; omega) | grind [sumR], (by repeat (first | exact Below.refl _ _ | refine Below.setCell ?_ (by first | (simp; done) | (simp; omega) | omega) _ | refine Below.alloc ?_ (by first | (simp; done) | (simp; omega) | omega) _ | (refine bstep (by assumption) ?_ (by first | (simp; done) | (simp; omega) | omega))))⟩
set_option maxHeartbeats 400000 in
theorem sumSp (a0 a1 b : Int) (w : World) : Calls Try.prog 33 #[.agg #[.int .i64 a0, .int .i64 a1], .int .i64 b] w fun e w' => e = .returned (.agg #[.int .i64 (sumR a0 a1 b).1, .int .i64 (sumR a0 a1 b).2]) ∧ Below w.heap.size w w' := by
  go_enter Try.func33, Try.ntmps33
  go_wp2_with (first | (go_at_call 29; refine (constantS _ _).mono ?_; rintro e w1 ⟨rfl, hb1⟩; obtain ⟨hc1, hf1⟩ := bcell hb1; have hz1 := hb1.size; try simp at hz1))
  all_goals exact bodyPost_ret (by first | (simp [results, Try.results33, go_sem]; done) | (simp [results, Try.results33, go_sem, hc1, hz1]; done) | (simp [results, Try.results33, go_sem]; rfl) | (simp [results, Try.results33, go_sem, hc1, hz1]; rfl)) rfl ⟨by first | rfl | (simp_all [sumR]; done) | (simp_all [sumR]; omega) | grind [sumR], (by repeat (first | exact Below.refl _ _ | refine Below.setCell ?_ (by first | (simp; done) | (simp; omega) | omega) _ | refine Below.alloc ?_ (by first | (simp; done) | (simp; omega) | omega) _ | (refine bstep (by assumption) ?_ (by first | (simp; done) | (simp; omega) | omega))))⟩
set_option maxHeartbeats 400000 in
theorem MeetValueC (a0 a1 b0 b1 : Int) (w : World) : Calls Try.prog 20 #[.agg #[.int .i64 a0, .int .i64 a1], .agg #[.int .i64 b0, .int .i64 b1]] w fun e w' => e = .returned (.agg #[.int .i64 (mvR a0 a1 b0 b1).1, .int .i64 (mvR a0 a1 b0 b1).2]) ∧ Below w.heap.size w w' := by
  go_enter Try.func20, Try.ntmps20
  go_wp2_with (first | (go_at_call 32; refine (bottom _).mono ?_; rintro e w1 ⟨rfl, hb1⟩; obtain ⟨hc1, hf1⟩ := bcell hb1; have hz1 := hb1.size; try simp at hz1))
  all_goals exact bodyPost_ret (by first | (simp [results, Try.results20, go_sem]; done) | (simp [results, Try.results20, go_sem, hc1, hz1]; done) | (simp [results, Try.results20, go_sem]; rfl) | (simp [results, Try.results20, go_sem, hc1, hz1]; rfl)) rfl ⟨by first | rfl | (simp_all [mvR]; done) | (simp_all [mvR]; omega) | grind [mvR], (by repeat (first | exact Below.refl _ _ | refine Below.setCell ?_ (by first | (simp; done) | (simp; omega) | omega) _ | refine Below.alloc ?_ (by first | (simp; done) | (simp; omega) | omega) _ | (refine bstep (by assumption) ?_ (by first | (simp; done) | (simp; omega) | omega))))⟩
set_option maxHeartbeats 400000 in
theorem MeetValueS (a0 a1 b0 b1 : Int) (w : World) : Calls Try.prog 22 #[.agg #[.int .i64 a0, .int .i64 a1], .agg #[.int .i64 b0, .int .i64 b1]] w fun e w' => e = .returned (.agg #[.int .i64 (mvR a0 a1 b0 b1).1, .int .i64 (mvR a0 a1 b0 b1).2]) ∧ Below w.heap.size w w' := by
  go_enter Try.func22, Try.ntmps22
  go_wp2_with (first | (go_at_call 34; refine (bottomS _).mono ?_; rintro e w1 ⟨rfl, hb1⟩; obtain ⟨hc1, hf1⟩ := bcell hb1; have hz1 := hb1.size; try simp at hz1))
  all_goals exact bodyPost_ret (by first | (simp [results, Try.results22, go_sem]; done) | (simp [results, Try.results22, go_sem, hc1, hz1]; done) | (simp [results, Try.results22, go_sem]; rfl) | (simp [results, Try.results22, go_sem, hc1, hz1]; rfl)) rfl ⟨by first | rfl | (simp_all [mvR]; done) | (simp_all [mvR]; omega) | grind [mvR], (by repeat (first | exact Below.refl _ _ | refine Below.setCell ?_ (by first | (simp; done) | (simp; omega) | omega) _ | refine Below.alloc ?_ (by first | (simp; done) | (simp; omega) | omega) _ | (refine bstep (by assumption) ?_ (by first | (simp; done) | (simp; omega) | omega))))⟩
set_option maxHeartbeats 4000000 in
theorem ApplyC3 (a1 a2 b0 b1 : Int) (hb0 : (b0 == 0) = false) (w : World) : Calls Try.prog 19 #[.agg #[.int .i64 3, .int .i64 a1, .int .i64 a2], .agg #[.int .i64 b0, .int .i64 b1]] w fun e w' => e = .returned (.agg #[.int .i64 (apR 3 a1 a2 b0 b1).1, .int .i64 (apR 3 a1 a2 b0 b1).2]) ∧ Below w.heap.size w w' := by
  go_enter Try.func19, Try.ntmps19
  go_wp2_with fail
  go_region_held3 (fun w' => w'.cell? ⟨w.heap.size, 0, none⟩ = some (.int .i64 3) ∧ w'.cell? ⟨w.heap.size, 1, none⟩ = some (.int .i64 a1) ∧ w'.cell? ⟨w.heap.size, 2, none⟩ = some (.int .i64 a2) ∧ w'.cell? ⟨w.heap.size + 1, 0, none⟩ = some (.int .i64 b0) ∧ w'.cell? ⟨w.heap.size + 1, 1, none⟩ = some (.int .i64 b1) ∧ w'.cell? ⟨w.heap.size + 1 + 1, 0, none⟩ = some (cellv w' (w.heap.size + 1 + 1) 0) ∧ w'.cell? ⟨w.heap.size + 1 + 1, 1, none⟩ = some (cellv w' (w.heap.size + 1 + 1) 1) ∧ w'.frozen? ⟨w.heap.size + 1 + 1, 0, none⟩ = false ∧ w'.frozen? ⟨w.heap.size + 1 + 1, 1, none⟩ = false ∧ Below w.heap.size w w' ∧ w.heap.size + 3 ≤ w'.heap.size)
    (first
      | (refine ⟨?_, ?_, ?_, ?_, ?_, ?_, ?_, ?_, ?_, ?_, ?_⟩; go_simp; go_simp; go_simp; go_simp; go_simp; (refine cellv_of _ _ (v := .int .i64 0) ?_; go_simp); (refine cellv_of _ _ (v := .int .i64 0) ?_; go_simp); go_simp; go_simp; (focus ((repeat' (with_reducible (first | assumption | exact Below.refl _ _ | apply Below.drew | apply Below.alloc | apply Below.setCell))); all_goals (first | omega | (simp; done) | (simp; omega)))); (first | (focus (simp; done)) | (focus (simp; omega))))
      | (go_split_ands; refine ⟨?_, ?_, ?_, ?_, ?_, ?_, ?_, ?_, ?_, ?_, ?_⟩; (rw [hb.cell (by first | omega | (simp; done) | (simp; omega))]; assumption); (rw [hb.cell (by first | omega | (simp; done) | (simp; omega))]; assumption); (rw [hb.cell (by first | omega | (simp; done) | (simp; omega))]; assumption); (rw [hb.cell (by first | omega | (simp; done) | (simp; omega))]; assumption); (rw [hb.cell (by first | omega | (simp; done) | (simp; omega))]; assumption); (refine cellv_below hb (by first | omega | (simp; done) | (simp; omega)) ?_; assumption); (refine cellv_below hb (by first | omega | (simp; done) | (simp; omega)) ?_; assumption); (rw [hb.frozen (by first | omega | (simp; done) | (simp; omega))]; assumption); (rw [hb.frozen (by first | omega | (simp; done) | (simp; omega))]; assumption); exact bstep hb (by assumption) (by first | omega | (simp; done) | (simp; omega)); (have hq := hb.size; omega))
      | (go_split_ands; refine ⟨?_, ?_, ?_, ?_, ?_, ?_, ?_, ?_, ?_, ?_, ?_⟩; (refine kc_alloc ?_; assumption); (refine kc_alloc ?_; assumption); (refine kc_alloc ?_; assumption); (refine kc_alloc ?_; assumption); (refine kc_alloc ?_; assumption); (refine cellv_alloc ?_; assumption); (refine cellv_alloc ?_; assumption); (refine kf_alloc (by first | omega | (simp; done) | (simp; omega)) ?_; assumption); (refine kf_alloc (by first | omega | (simp; done) | (simp; omega)) ?_; assumption); exact Below.alloc (by assumption) (by first | omega | (simp; done) | (simp; omega)) _; (first | omega | (rw [World.size_alloc]; omega)))
      | (go_split_ands; refine ⟨?_, ?_, ?_, ?_, ?_, ?_, ?_, ?_, ?_, ?_, ?_⟩; exact kc_realloc (by first | omega | (simp; done) | (simp; omega)) (by assumption); exact kc_realloc (by first | omega | (simp; done) | (simp; omega)) (by assumption); exact kc_realloc (by first | omega | (simp; done) | (simp; omega)) (by assumption); exact kc_realloc (by first | omega | (simp; done) | (simp; omega)) (by assumption); exact kc_realloc (by first | omega | (simp; done) | (simp; omega)) (by assumption); exact cellv_of _ _ (kc_realloc (by first | omega | (simp; done) | (simp; omega)) (by assumption)); exact cellv_of _ _ (kc_realloc (by first | omega | (simp; done) | (simp; omega)) (by assumption)); exact kf_realloc (by first | omega | (simp; done) | (simp; omega)) (by assumption); exact kf_realloc (by first | omega | (simp; done) | (simp; omega)) (by assumption); exact kb_realloc (by first | omega | (simp; done) | (simp; omega)) (by assumption); (first | omega | (rw [World.size_alloc]; omega)))
      | (go_split_ands; refine ⟨?_, ?_, ?_, ?_, ?_, ?_, ?_, ?_, ?_, ?_, ?_⟩; (focus (repeat (first | assumption | refine kc_set (by first | omega | (simp; done) | (simp; omega)) ?_))); (focus (repeat (first | assumption | refine kc_set (by first | omega | (simp; done) | (simp; omega)) ?_))); (focus (repeat (first | assumption | refine kc_set (by first | omega | (simp; done) | (simp; omega)) ?_))); (focus (repeat (first | assumption | refine kc_set (by first | omega | (simp; done) | (simp; omega)) ?_))); (focus (repeat (first | assumption | refine kc_set (by first | omega | (simp; done) | (simp; omega)) ?_))); (focus (repeat (first | assumption | refine cellv_set ?_))); (focus (repeat (first | assumption | refine cellv_set ?_))); (focus (repeat (first | assumption | refine kf_set ?_))); (focus (repeat (first | assumption | refine kf_set ?_))); (focus (repeat (first | assumption | refine Below.setCell ?_ (by first | omega | (simp; done) | (simp; omega)) _))); (first | omega | (focus (simp only [World.size_setCell]; omega)) | (focus (simp; omega)) | (focus (simp only [World.size_setCell]; done)))))
    (first
      | (go_at_call 30; refine (constant _ _).mono ?_; rintro e w1 ⟨rfl, hb⟩; have hz := hb.size; (try simp at hz); (try (have q0 := (hb.cell (by first | omega | (simp; done) | (simp; omega))).trans q0; have q1 := (hb.cell (by first | omega | (simp; done) | (simp; omega))).trans q1; have q2 := (hb.frozen (by first | omega | (simp; done) | (simp; omega))).trans q2; have q3 := (hb.frozen (by first | omega | (simp; done) | (simp; omega))).trans q3)); (try (have u0 := (hb.cell (by first | omega | (simp; done) | (simp; omega))).trans u0; have u1 := (hb.cell (by first | omega | (simp; done) | (simp; omega))).trans u1; have u2 := (hb.cell (by first | omega | (simp; done) | (simp; omega))).trans u2; have u3 := (hb.frozen (by first | omega | (simp; done) | (simp; omega))).trans u3; have u4 := (hb.frozen (by first | omega | (simp; done) | (simp; omega))).trans u4; have u5 := (hb.frozen (by first | omega | (simp; done) | (simp; omega))).trans u5)); (try (have q := bx2 hb; obtain ⟨q0, q1, q2, q3, q4⟩ := q)); (try (have q := bx2d hb; obtain ⟨q0, q1, q2, q3, q4⟩ := q)); (try (have u := bx3 hb; obtain ⟨u0, u1, u2, u3, u4, u5, u6⟩ := u)); (try (have u := bx3d hb; obtain ⟨u0, u1, u2, u3, u4, u5, u6⟩ := u)))
      | (go_at_call 31; refine (sumC _ _ _ _).mono ?_; rintro e w1 ⟨rfl, hb⟩; have hz := hb.size; (try simp at hz); (try (have q0 := (hb.cell (by first | omega | (simp; done) | (simp; omega))).trans q0; have q1 := (hb.cell (by first | omega | (simp; done) | (simp; omega))).trans q1; have q2 := (hb.frozen (by first | omega | (simp; done) | (simp; omega))).trans q2; have q3 := (hb.frozen (by first | omega | (simp; done) | (simp; omega))).trans q3)); (try (have u0 := (hb.cell (by first | omega | (simp; done) | (simp; omega))).trans u0; have u1 := (hb.cell (by first | omega | (simp; done) | (simp; omega))).trans u1; have u2 := (hb.cell (by first | omega | (simp; done) | (simp; omega))).trans u2; have u3 := (hb.frozen (by first | omega | (simp; done) | (simp; omega))).trans u3; have u4 := (hb.frozen (by first | omega | (simp; done) | (simp; omega))).trans u4; have u5 := (hb.frozen (by first | omega | (simp; done) | (simp; omega))).trans u5)); (try (have q := bx2 hb; obtain ⟨q0, q1, q2, q3, q4⟩ := q)); (try (have q := bx2d hb; obtain ⟨q0, q1, q2, q3, q4⟩ := q)); (try (have u := bx3 hb; obtain ⟨u0, u1, u2, u3, u4, u5, u6⟩ := u)); (try (have u := bx3d hb; obtain ⟨u0, u1, u2, u3, u4, u5, u6⟩ := u)))
      | (go_at_call 20; refine (MeetValueC _ _ _ _ _).mono ?_; rintro e w1 ⟨rfl, hb⟩; have hz := hb.size; (try simp at hz); (try (have q0 := (hb.cell (by first | omega | (simp; done) | (simp; omega))).trans q0; have q1 := (hb.cell (by first | omega | (simp; done) | (simp; omega))).trans q1; have q2 := (hb.frozen (by first | omega | (simp; done) | (simp; omega))).trans q2; have q3 := (hb.frozen (by first | omega | (simp; done) | (simp; omega))).trans q3)); (try (have u0 := (hb.cell (by first | omega | (simp; done) | (simp; omega))).trans u0; have u1 := (hb.cell (by first | omega | (simp; done) | (simp; omega))).trans u1; have u2 := (hb.cell (by first | omega | (simp; done) | (simp; omega))).trans u2; have u3 := (hb.frozen (by first | omega | (simp; done) | (simp; omega))).trans u3; have u4 := (hb.frozen (by first | omega | (simp; done) | (simp; omega))).trans u4; have u5 := (hb.frozen (by first | omega | (simp; done) | (simp; omega))).trans u5)); (try (have q := bx2 hb; obtain ⟨q0, q1, q2, q3, q4⟩ := q)); (try (have q := bx2d hb; obtain ⟨q0, q1, q2, q3, q4⟩ := q)); (try (have u := bx3 hb; obtain ⟨u0, u1, u2, u3, u4, u5, u6⟩ := u)); (try (have u := bx3d hb; obtain ⟨u0, u1, u2, u3, u4, u5, u6⟩ := u))))
  go_split_ands
  rename_i g1 g2 g3 g4 g5 g6 g7 g8 g9 g10 g11
  obtain ⟨t0, t1⟩ := two_set g6 g7
  clear g6 g7
  go_wp2
  exact bodyPost_ret (by simp [results, Try.results19, go_sem, t0, t1]; rfl) rfl ⟨by simp [apR]; simp_all, by assumption⟩
set_option maxHeartbeats 400000 in
theorem ApplyC0 (a0 a1 a2 b1 : Int) (w : World) : Calls Try.prog 19 #[.agg #[.int .i64 a0, .int .i64 a1, .int .i64 a2], .agg #[.int .i64 0, .int .i64 b1]] w fun e w' => e = .returned (.agg #[.int .i64 (apR a0 a1 a2 0 b1).1, .int .i64 (apR a0 a1 a2 0 b1).2]) ∧ Below w.heap.size w w' := by
  go_enter Try.func19, Try.ntmps19
  go_wp2
  all_goals exact bodyPost_ret (by first | (simp [results, Try.results19, go_sem]; done) | (simp [results, Try.results19, go_sem]; rfl)) rfl ⟨by first | rfl | (simp_all [apR]; done) | (simp_all [apR]; omega) | grind [apR], (by repeat (first | exact Below.refl _ _ | refine Below.setCell ?_ (by first | (simp; done) | (simp; omega) | omega) _ | refine Below.alloc ?_ (by first | (simp; done) | (simp; omega) | omega) _ | (refine bstep (by assumption) ?_ (by first | (simp; done) | (simp; omega) | omega))))⟩
set_option maxHeartbeats 4000000 in
theorem ApplyCn (a0 a1 a2 b0 b1 : Int) (hb0 : (b0 == 0) = false) (ha : (a0 == 3) = false) (w : World) : Calls Try.prog 19 #[.agg #[.int .i64 a0, .int .i64 a1, .int .i64 a2], .agg #[.int .i64 b0, .int .i64 b1]] w fun e w' => e = .returned (.agg #[.int .i64 (apR a0 a1 a2 b0 b1).1, .int .i64 (apR a0 a1 a2 b0 b1).2]) ∧ Below w.heap.size w w' := by
  go_enter Try.func19, Try.ntmps19
  go_wp2_with (first | (go_at_call 30; refine (constant _ _).mono ?_; rintro e w1 ⟨rfl, hb1⟩; obtain ⟨hc1, hf1⟩ := bcell hb1; have hz1 := hb1.size; try simp at hz1) | (go_at_call 31; refine (sumC _ _ _ _).mono ?_; rintro e w2 ⟨rfl, hb2⟩; obtain ⟨hc2, hf2⟩ := bcell hb2; have hz2 := hb2.size; try simp at hz2) | (go_at_call 32; refine (bottom _).mono ?_; rintro e w4 ⟨rfl, hb4⟩; obtain ⟨hc4, hf4⟩ := bcell hb4; have hz4 := hb4.size; try simp at hz4))
  all_goals exact bodyPost_ret (by first | (simp [results, Try.results19, go_sem]; done) | (simp [results, Try.results19, go_sem, hc1, hz1, hc2, hz2, hc4, hz4]; done) | (simp [results, Try.results19, go_sem, hc1, hz1, hc2, hz2]; done) | (simp [results, Try.results19, go_sem, hc1, hz1, hc4, hz4]; done) | (simp [results, Try.results19, go_sem, hc2, hz2, hc4, hz4]; done) | (simp [results, Try.results19, go_sem, hc1, hz1]; done) | (simp [results, Try.results19, go_sem, hc2, hz2]; done) | (simp [results, Try.results19, go_sem, hc4, hz4]; done) | (simp [results, Try.results19, go_sem]; rfl) | (simp [results, Try.results19, go_sem, hc1, hz1, hc2, hz2, hc4, hz4]; rfl) | (simp [results, Try.results19, go_sem, hc1, hz1, hc2, hz2]; rfl) | (simp [results, Try.results19, go_sem, hc1, hz1, hc4, hz4]; rfl) | (simp [results, Try.results19, go_sem, hc2, hz2, hc4, hz4]; rfl) | (simp [results, Try.results19, go_sem, hc1, hz1]; rfl) | (simp [results, Try.results19, go_sem, hc2, hz2]; rfl) | (simp [results, Try.results19, go_sem, hc4, hz4]; rfl)) rfl ⟨by first | rfl | (simp_all [apR]; done) | (simp_all [apR]; omega) | grind [apR], (by repeat (first | exact Below.refl _ _ | refine Below.setCell ?_ (by first | (simp; done) | (simp; omega) | omega) _ | refine Below.alloc ?_ (by first | (simp; done) | (simp; omega) | omega) _ | (refine bstep (by assumption) ?_ (by first | (simp; done) | (simp; omega) | omega))))⟩
theorem ApplyC (a0 a1 a2 b0 b1 : Int) (w : World) : Calls Try.prog 19 #[.agg #[.int .i64 a0, .int .i64 a1, .int .i64 a2], .agg #[.int .i64 b0, .int .i64 b1]] w fun e w' => e = .returned (.agg #[.int .i64 (apR a0 a1 a2 b0 b1).1, .int .i64 (apR a0 a1 a2 b0 b1).2]) ∧ Below w.heap.size w w' := by
  by_cases h0 : b0 = 0
  · subst h0; exact ApplyC0 _ _ _ _ _
  · by_cases h3 : a0 = 3
    · subst h3; exact ApplyC3 _ _ _ _ (by simpa using h0) _
    · exact ApplyCn _ _ _ _ _ (by simpa using h0) (by simpa using h3) _
set_option maxHeartbeats 4000000 in
theorem ApplyS3 (a1 a2 b0 b1 : Int) (hb0 : (b0 == 0) = false) (w : World) : Calls Try.prog 21 #[.agg #[.int .i64 3, .int .i64 a1, .int .i64 a2], .agg #[.int .i64 b0, .int .i64 b1]] w fun e w' => e = .returned (.agg #[.int .i64 (apS 3 a1 a2 b0 b1).1, .int .i64 (apS 3 a1 a2 b0 b1).2]) ∧ Below w.heap.size w w' := by
  go_enter Try.func21, Try.ntmps21
  go_wp2_with fail
  go_region_held3 (fun w' => w'.cell? ⟨w.heap.size, 0, none⟩ = some (.int .i64 3) ∧ w'.cell? ⟨w.heap.size, 1, none⟩ = some (.int .i64 a1) ∧ w'.cell? ⟨w.heap.size, 2, none⟩ = some (.int .i64 a2) ∧ w'.cell? ⟨w.heap.size + 1, 0, none⟩ = some (.int .i64 b0) ∧ w'.cell? ⟨w.heap.size + 1, 1, none⟩ = some (.int .i64 b1) ∧ w'.cell? ⟨w.heap.size + 1 + 1, 0, none⟩ = some (cellv w' (w.heap.size + 1 + 1) 0) ∧ w'.cell? ⟨w.heap.size + 1 + 1, 1, none⟩ = some (cellv w' (w.heap.size + 1 + 1) 1) ∧ w'.frozen? ⟨w.heap.size + 1 + 1, 0, none⟩ = false ∧ w'.frozen? ⟨w.heap.size + 1 + 1, 1, none⟩ = false ∧ Below w.heap.size w w' ∧ w.heap.size + 3 ≤ w'.heap.size)
    (first
      | (refine ⟨?_, ?_, ?_, ?_, ?_, ?_, ?_, ?_, ?_, ?_, ?_⟩; go_simp; go_simp; go_simp; go_simp; go_simp; (refine cellv_of _ _ (v := .int .i64 0) ?_; go_simp); (refine cellv_of _ _ (v := .int .i64 0) ?_; go_simp); go_simp; go_simp; (focus ((repeat' (with_reducible (first | assumption | exact Below.refl _ _ | apply Below.drew | apply Below.alloc | apply Below.setCell))); all_goals (first | omega | (simp; done) | (simp; omega)))); (first | (focus (simp; done)) | (focus (simp; omega))))
      | (go_split_ands; refine ⟨?_, ?_, ?_, ?_, ?_, ?_, ?_, ?_, ?_, ?_, ?_⟩; (rw [hb.cell (by first | omega | (simp; done) | (simp; omega))]; assumption); (rw [hb.cell (by first | omega | (simp; done) | (simp; omega))]; assumption); (rw [hb.cell (by first | omega | (simp; done) | (simp; omega))]; assumption); (rw [hb.cell (by first | omega | (simp; done) | (simp; omega))]; assumption); (rw [hb.cell (by first | omega | (simp; done) | (simp; omega))]; assumption); (refine cellv_below hb (by first | omega | (simp; done) | (simp; omega)) ?_; assumption); (refine cellv_below hb (by first | omega | (simp; done) | (simp; omega)) ?_; assumption); (rw [hb.frozen (by first | omega | (simp; done) | (simp; omega))]; assumption); (rw [hb.frozen (by first | omega | (simp; done) | (simp; omega))]; assumption); exact bstep hb (by assumption) (by first | omega | (simp; done) | (simp; omega)); (have hq := hb.size; omega))
      | (go_split_ands; refine ⟨?_, ?_, ?_, ?_, ?_, ?_, ?_, ?_, ?_, ?_, ?_⟩; (refine kc_alloc ?_; assumption); (refine kc_alloc ?_; assumption); (refine kc_alloc ?_; assumption); (refine kc_alloc ?_; assumption); (refine kc_alloc ?_; assumption); (refine cellv_alloc ?_; assumption); (refine cellv_alloc ?_; assumption); (refine kf_alloc (by first | omega | (simp; done) | (simp; omega)) ?_; assumption); (refine kf_alloc (by first | omega | (simp; done) | (simp; omega)) ?_; assumption); exact Below.alloc (by assumption) (by first | omega | (simp; done) | (simp; omega)) _; (first | omega | (rw [World.size_alloc]; omega)))
      | (go_split_ands; refine ⟨?_, ?_, ?_, ?_, ?_, ?_, ?_, ?_, ?_, ?_, ?_⟩; exact kc_realloc (by first | omega | (simp; done) | (simp; omega)) (by assumption); exact kc_realloc (by first | omega | (simp; done) | (simp; omega)) (by assumption); exact kc_realloc (by first | omega | (simp; done) | (simp; omega)) (by assumption); exact kc_realloc (by first | omega | (simp; done) | (simp; omega)) (by assumption); exact kc_realloc (by first | omega | (simp; done) | (simp; omega)) (by assumption); exact cellv_of _ _ (kc_realloc (by first | omega | (simp; done) | (simp; omega)) (by assumption)); exact cellv_of _ _ (kc_realloc (by first | omega | (simp; done) | (simp; omega)) (by assumption)); exact kf_realloc (by first | omega | (simp; done) | (simp; omega)) (by assumption); exact kf_realloc (by first | omega | (simp; done) | (simp; omega)) (by assumption); exact kb_realloc (by first | omega | (simp; done) | (simp; omega)) (by assumption); (first | omega | (rw [World.size_alloc]; omega)))
      | (go_split_ands; refine ⟨?_, ?_, ?_, ?_, ?_, ?_, ?_, ?_, ?_, ?_, ?_⟩; (focus (repeat (first | assumption | refine kc_set (by first | omega | (simp; done) | (simp; omega)) ?_))); (focus (repeat (first | assumption | refine kc_set (by first | omega | (simp; done) | (simp; omega)) ?_))); (focus (repeat (first | assumption | refine kc_set (by first | omega | (simp; done) | (simp; omega)) ?_))); (focus (repeat (first | assumption | refine kc_set (by first | omega | (simp; done) | (simp; omega)) ?_))); (focus (repeat (first | assumption | refine kc_set (by first | omega | (simp; done) | (simp; omega)) ?_))); (focus (repeat (first | assumption | refine cellv_set ?_))); (focus (repeat (first | assumption | refine cellv_set ?_))); (focus (repeat (first | assumption | refine kf_set ?_))); (focus (repeat (first | assumption | refine kf_set ?_))); (focus (repeat (first | assumption | refine Below.setCell ?_ (by first | omega | (simp; done) | (simp; omega)) _))); (first | omega | (focus (simp only [World.size_setCell]; omega)) | (focus (simp; omega)) | (focus (simp only [World.size_setCell]; done)))))
    (first
      | (go_at_call 29; refine (constantS _ _).mono ?_; rintro e w1 ⟨rfl, hb⟩; have hz := hb.size; (try simp at hz); (try (have q0 := (hb.cell (by first | omega | (simp; done) | (simp; omega))).trans q0; have q1 := (hb.cell (by first | omega | (simp; done) | (simp; omega))).trans q1; have q2 := (hb.frozen (by first | omega | (simp; done) | (simp; omega))).trans q2; have q3 := (hb.frozen (by first | omega | (simp; done) | (simp; omega))).trans q3)); (try (have u0 := (hb.cell (by first | omega | (simp; done) | (simp; omega))).trans u0; have u1 := (hb.cell (by first | omega | (simp; done) | (simp; omega))).trans u1; have u2 := (hb.cell (by first | omega | (simp; done) | (simp; omega))).trans u2; have u3 := (hb.frozen (by first | omega | (simp; done) | (simp; omega))).trans u3; have u4 := (hb.frozen (by first | omega | (simp; done) | (simp; omega))).trans u4; have u5 := (hb.frozen (by first | omega | (simp; done) | (simp; omega))).trans u5)); (try (have q := bx2 hb; obtain ⟨q0, q1, q2, q3, q4⟩ := q)); (try (have q := bx2d hb; obtain ⟨q0, q1, q2, q3, q4⟩ := q)); (try (have u := bx3 hb; obtain ⟨u0, u1, u2, u3, u4, u5, u6⟩ := u)); (try (have u := bx3d hb; obtain ⟨u0, u1, u2, u3, u4, u5, u6⟩ := u)))
      | (go_at_call 33; refine (sumSp _ _ _ _).mono ?_; rintro e w1 ⟨rfl, hb⟩; have hz := hb.size; (try simp at hz); (try (have q0 := (hb.cell (by first | omega | (simp; done) | (simp; omega))).trans q0; have q1 := (hb.cell (by first | omega | (simp; done) | (simp; omega))).trans q1; have q2 := (hb.frozen (by first | omega | (simp; done) | (simp; omega))).trans q2; have q3 := (hb.frozen (by first | omega | (simp; done) | (simp; omega))).trans q3)); (try (have u0 := (hb.cell (by first | omega | (simp; done) | (simp; omega))).trans u0; have u1 := (hb.cell (by first | omega | (simp; done) | (simp; omega))).trans u1; have u2 := (hb.cell (by first | omega | (simp; done) | (simp; omega))).trans u2; have u3 := (hb.frozen (by first | omega | (simp; done) | (simp; omega))).trans u3; have u4 := (hb.frozen (by first | omega | (simp; done) | (simp; omega))).trans u4; have u5 := (hb.frozen (by first | omega | (simp; done) | (simp; omega))).trans u5)); (try (have q := bx2 hb; obtain ⟨q0, q1, q2, q3, q4⟩ := q)); (try (have q := bx2d hb; obtain ⟨q0, q1, q2, q3, q4⟩ := q)); (try (have u := bx3 hb; obtain ⟨u0, u1, u2, u3, u4, u5, u6⟩ := u)); (try (have u := bx3d hb; obtain ⟨u0, u1, u2, u3, u4, u5, u6⟩ := u)))
      | (go_at_call 22; refine (MeetValueS _ _ _ _ _).mono ?_; rintro e w1 ⟨rfl, hb⟩; have hz := hb.size; (try simp at hz); (try (have q0 := (hb.cell (by first | omega | (simp; done) | (simp; omega))).trans q0; have q1 := (hb.cell (by first | omega | (simp; done) | (simp; omega))).trans q1; have q2 := (hb.frozen (by first | omega | (simp; done) | (simp; omega))).trans q2; have q3 := (hb.frozen (by first | omega | (simp; done) | (simp; omega))).trans q3)); (try (have u0 := (hb.cell (by first | omega | (simp; done) | (simp; omega))).trans u0; have u1 := (hb.cell (by first | omega | (simp; done) | (simp; omega))).trans u1; have u2 := (hb.cell (by first | omega | (simp; done) | (simp; omega))).trans u2; have u3 := (hb.frozen (by first | omega | (simp; done) | (simp; omega))).trans u3; have u4 := (hb.frozen (by first | omega | (simp; done) | (simp; omega))).trans u4; have u5 := (hb.frozen (by first | omega | (simp; done) | (simp; omega))).trans u5)); (try (have q := bx2 hb; obtain ⟨q0, q1, q2, q3, q4⟩ := q)); (try (have q := bx2d hb; obtain ⟨q0, q1, q2, q3, q4⟩ := q)); (try (have u := bx3 hb; obtain ⟨u0, u1, u2, u3, u4, u5, u6⟩ := u)); (try (have u := bx3d hb; obtain ⟨u0, u1, u2, u3, u4, u5, u6⟩ := u))))
  go_split_ands
  rename_i g1 g2 g3 g4 g5 g6 g7 g8 g9 g10 g11
  obtain ⟨t0, t1⟩ := two_set g6 g7
  clear g6 g7
  go_wp2
  exact bodyPost_ret (by simp [results, Try.results21, go_sem, t0, t1]; rfl) rfl ⟨by simp [apS]; simp_all, by assumption⟩
set_option maxHeartbeats 400000 in
theorem ApplyS0 (a0 a1 a2 b1 : Int) (w : World) : Calls Try.prog 21 #[.agg #[.int .i64 a0, .int .i64 a1, .int .i64 a2], .agg #[.int .i64 0, .int .i64 b1]] w fun e w' => e = .returned (.agg #[.int .i64 (apS a0 a1 a2 0 b1).1, .int .i64 (apS a0 a1 a2 0 b1).2]) ∧ Below w.heap.size w w' := by
  go_enter Try.func21, Try.ntmps21
  go_wp2
  all_goals exact bodyPost_ret (by first | (simp [results, Try.results21, go_sem]; done) | (simp [results, Try.results21, go_sem]; rfl)) rfl ⟨by first | rfl | (simp_all [apS]; done) | (simp_all [apS]; omega) | grind [apS], (by repeat (first | exact Below.refl _ _ | refine Below.setCell ?_ (by first | (simp; done) | (simp; omega) | omega) _ | refine Below.alloc ?_ (by first | (simp; done) | (simp; omega) | omega) _ | (refine bstep (by assumption) ?_ (by first | (simp; done) | (simp; omega) | omega))))⟩
set_option maxHeartbeats 4000000 in
theorem ApplySn (a0 a1 a2 b0 b1 : Int) (hb0 : (b0 == 0) = false) (ha : (a0 == 3) = false) (w : World) : Calls Try.prog 21 #[.agg #[.int .i64 a0, .int .i64 a1, .int .i64 a2], .agg #[.int .i64 b0, .int .i64 b1]] w fun e w' => e = .returned (.agg #[.int .i64 (apS a0 a1 a2 b0 b1).1, .int .i64 (apS a0 a1 a2 b0 b1).2]) ∧ Below w.heap.size w w' := by
  go_enter Try.func21, Try.ntmps21
  go_wp2_with (first | (go_at_call 29; refine (constantS _ _).mono ?_; rintro e w1 ⟨rfl, hb1⟩; obtain ⟨hc1, hf1⟩ := bcell hb1; have hz1 := hb1.size; try simp at hz1) | (go_at_call 33; refine (sumSp _ _ _ _).mono ?_; rintro e w2 ⟨rfl, hb2⟩; obtain ⟨hc2, hf2⟩ := bcell hb2; have hz2 := hb2.size; try simp at hz2) | (go_at_call 34; refine (bottomS _).mono ?_; rintro e w4 ⟨rfl, hb4⟩; obtain ⟨hc4, hf4⟩ := bcell hb4; have hz4 := hb4.size; try simp at hz4))
  all_goals exact bodyPost_ret (by first | (simp [results, Try.results21, go_sem]; done) | (simp [results, Try.results21, go_sem, hc1, hz1, hc2, hz2, hc4, hz4]; done) | (simp [results, Try.results21, go_sem, hc1, hz1, hc2, hz2]; done) | (simp [results, Try.results21, go_sem, hc1, hz1, hc4, hz4]; done) | (simp [results, Try.results21, go_sem, hc2, hz2, hc4, hz4]; done) | (simp [results, Try.results21, go_sem, hc1, hz1]; done) | (simp [results, Try.results21, go_sem, hc2, hz2]; done) | (simp [results, Try.results21, go_sem, hc4, hz4]; done) | (simp [results, Try.results21, go_sem]; rfl) | (simp [results, Try.results21, go_sem, hc1, hz1, hc2, hz2, hc4, hz4]; rfl) | (simp [results, Try.results21, go_sem, hc1, hz1, hc2, hz2]; rfl) | (simp [results, Try.results21, go_sem, hc1, hz1, hc4, hz4]; rfl) | (simp [results, Try.results21, go_sem, hc2, hz2, hc4, hz4]; rfl) | (simp [results, Try.results21, go_sem, hc1, hz1]; rfl) | (simp [results, Try.results21, go_sem, hc2, hz2]; rfl) | (simp [results, Try.results21, go_sem, hc4, hz4]; rfl)) rfl ⟨by first | rfl | (simp_all [apS]; done) | (simp_all [apS]; omega) | grind [apS], (by repeat (first | exact Below.refl _ _ | refine Below.setCell ?_ (by first | (simp; done) | (simp; omega) | omega) _ | refine Below.alloc ?_ (by first | (simp; done) | (simp; omega) | omega) _ | (refine bstep (by assumption) ?_ (by first | (simp; done) | (simp; omega) | omega))))⟩
theorem ApplyS (a0 a1 a2 b0 b1 : Int) (w : World) : Calls Try.prog 21 #[.agg #[.int .i64 a0, .int .i64 a1, .int .i64 a2], .agg #[.int .i64 b0, .int .i64 b1]] w fun e w' => e = .returned (.agg #[.int .i64 (apS a0 a1 a2 b0 b1).1, .int .i64 (apS a0 a1 a2 b0 b1).2]) ∧ Below w.heap.size w w' := by
  by_cases h0 : b0 = 0
  · subst h0; exact ApplyS0 _ _ _ _ _
  · by_cases h3 : a0 = 3
    · subst h3; exact ApplyS3 _ _ _ _ (by simpa using h0) _
    · exact ApplySn _ _ _ _ _ (by simpa using h0) (by simpa using h3) _
end Go.Proofs.Ytnicekdbpjalgaa
