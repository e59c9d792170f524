/- Rows of facts as rows of cells, and append to a row of the call's own as a step of a region that draws its order. No condition. -/
import Derived.Test.YtehfommdgoffmaaQObh
import Derived.Deep.AppendLies
import Derived.Laws.OwnMore
import Derived.Deep.RegionHeld3
import Derived.Deep.MidRow
namespace Go.Proofs.Ytehfommdgoffmaa.QObs
open Go.RowKit Go.Shelf Go.Lib Go.Sort Go.Proofs.Ytehfommdgoffmaa.RowK Go.Proofs.Ytehfommdgoffmaa.Cmp Go.Proofs.Ytehfommdgoffmaa.Bridge Go.Proofs.YtehfommdgoffmaaW.PrintWords Go.Proofs.YtehfommdgoffmaaW.PrintLast Go.Proofs.YtehfommdgoffmaaW.PrintMore
set_option linter.unusedVariables false
set_option linter.unusedSimpArgs false

theorem step_append_own {P : Program} {ops : Array Oper} {o : Oper} {a : Act} {w : World} {K : Act → World → Prop} {Q : Exit → Act → World → Prop} {E : Prop} (hgd : o.guard = none) (s x : Operand) (t : TypeId)
    (ho : o.op = .call { callee := .builtin .append, args := #[s, x], argTypes := #[t, t] })
    (base : Nat) (e : TypeId) (i : TypeInfo) (z : Value) (size bytes : Nat) (ht : P.underlying t = some (.slice e)) (hi : P.info? e = some i) (hz : i.zero = some z)
    (hsize : i.size = size) (hby : i.bytes = bytes) (hzs : z.cells.size = size) (hsz : 0 < size)
    (v : Value) (n : Nat) (xs : List Value) (hs : a.eval s = v) (hown : w.ownsRow base e size v n xs)
    (ad : Addr) (m c : Nat) (news : List Value) (hx : a.eval x = .slice (some ad) m c) (hl : news.length = m * size) (hnews : ∀ j u, news[j]? = some u → w.cell? (ad.add j) = some u) (h1 : ∀ u ∈ news, u.oneCell' = true)
    (h63 : n + m ≤ maxLen) (hbytes : (n + m) * bytes ≤ 140737488355328) (hbase : base ≤ w.heap.size)
    (h : ∀ v' w', w'.ownsRow base e size v' (n + m) (xs ++ news) → w.grownBy w' v.ownBlock → K (a.put o.dst v') w') :
    if Region.wanted o (yielded ops a.tmps) = true then Oper.wp P o a w K Q else E := by
  have hw : Region.wanted o (yielded ops a.tmps) = true := by simp [Region.wanted, hgd]
  rw [if_pos hw]
  obtain ⟨v', w', hr, h2, h3, -⟩ := run_append_own (P := P) w base t o.type e i z size bytes ht hi hz hsize hby hzs hsz v n xs hown ad m c news hl hnews h1 h63 hbytes hbase
  unfold Oper.wp execOp
  simp only [ho, resolve, invoke, builtin, Sem.run_bind, Sem.run_pure, Result.andThen_ok, List.map_toArray, List.map_cons, List.map_nil, hs, hx, hr]
  exact h v' w' h2 h3
theorem below_grown {w W w' : World} {row : Option Nat} (hB : Below w.heap.size w W) (hg : W.grownBy w' row) (hr : ∀ k, row = some k → w.heap.size ≤ k) : Below w.heap.size w w' :=
  ⟨hg.os.trans hB.os, hg.tape.trans hB.tape, hg.output.trans hB.output, Nat.le_trans hB.size hg.size, fun i hi => (hg.block i (Nat.lt_of_lt_of_le hi hB.size) (fun e => by have := hr i e.symm; omega)).trans (hB.block i hi)⟩
theorem below_al {w W : World} (h : Below w.heap.size w W) (x : Obj) : Below w.heap.size w (W.alloc x) := h.alloc h.size x
theorem keepS {wd W : World} {b : Nat} {x y z : Value} (hq : b < wd.heap.size) (h0 : wd.cell? ⟨b, 0, none⟩ = some x) (h1 : wd.cell? ⟨b, 1, none⟩ = some y) (h2 : wd.cell? ⟨b, 2, none⟩ = some z) (hb : Below wd.heap.size wd W) : W.cell? ⟨b, 0, none⟩ = some x ∧ W.cell? ⟨b, 1, none⟩ = some y ∧ W.cell? ⟨b, 2, none⟩ = some z ∧ Below wd.heap.size wd W :=
  ⟨(hb.cell (p := ⟨b, 0, none⟩) hq).trans h0, (hb.cell (p := ⟨b, 1, none⟩) hq).trans h1, (hb.cell (p := ⟨b, 2, none⟩) hq).trans h2, hb⟩
theorem step_append_at {P : Program} {ops : Array Oper} {o : Oper} {a : Act} {w : World} {K : Act → World → Prop} {Q : Exit → Act → World → Prop} {E : Prop} (wd : World) (hgd : o.guard = none) (s x : Operand) (t : TypeId)
    (ho : o.op = .call { callee := .builtin .append, args := #[s, x], argTypes := #[t, t] })
    (e : TypeId) (i : TypeInfo) (z : Value) (size bytes : Nat) (ht : P.underlying t = some (.slice e)) (hi : P.info? e = some i) (hz : i.zero = some z)
    (hsize : i.size = size) (hby : i.bytes = bytes) (hzs : z.cells.size = size) (hsz : 0 < size)
    (v : Value) (n : Nat) (xs : List Value) (hs : a.eval s = v) (hown : w.ownsRow wd.heap.size e size v n xs)
    (ad : Addr) (m c : Nat) (news : List Value) (hx : a.eval x = .slice (some ad) m c) (hl : news.length = m * size) (hnews : ∀ j u, news[j]? = some u → w.cell? (ad.add j) = some u) (h1 : ∀ u ∈ news, u.oneCell' = true)
    (h63 : n + m ≤ maxLen) (hbytes : (n + m) * bytes ≤ 140737488355328) (hB : Below wd.heap.size wd w)
    (h : ∀ v' w', w'.ownsRow wd.heap.size e size v' (n + m) (xs ++ news) → w.grownBy w' v.ownBlock → Below wd.heap.size wd w' → K (a.put o.dst v') w') :
    if Region.wanted o (yielded ops a.tmps) = true then Oper.wp P o a w K Q else E :=
  step_append_own hgd s x t ho wd.heap.size e i z size bytes ht hi hz hsize hby hzs hsz v n xs hs hown ad m c news hx hl hnews h1 h63 hbytes hB.size
    fun v' w' h2 h3 => h v' w' h2 h3 (below_grown hB h3 (fun k hk => own_base hown k hk))
theorem own_empty {W : World} {base b : Nat} {e : TypeId} {size : Nat} (h : W.heap[b]? = some (.cells #[] e (0, 0))) (hb : base ≤ b) : W.ownsRow base e size (.slice (some ⟨b, 0, none⟩) 0 0) 0 [] :=
  ⟨by simp, .inr ⟨b, 0, #[], rfl, hb, h, Nat.le_refl _, Nat.zero_le _, by simp, by simp⟩⟩
theorem own_A {wd : World} {e : TypeId} {size : Nat} : (wd.alloc (.cells #[] e (0, 0))).drew.ownsRow wd.heap.size e size (.slice (some ⟨wd.heap.size, 0, none⟩) 0 0) 0 [] :=
  own_empty (show (wd.heap.push _)[wd.heap.size]? = _ by simp) (Nat.le_refl _)
theorem own_B {wd : World} {e : TypeId} {size : Nat} (x : Obj) : ((wd.alloc (.cells #[] e (0, 0))).alloc x).drew.ownsRow wd.heap.size e size (.slice (some ⟨wd.heap.size, 0, none⟩) 0 0) 0 [] :=
  own_empty (show ((wd.heap.push _).push _)[wd.heap.size]? = _ by simp [Array.getElem?_push]) (Nat.le_refl _)
theorem own_C {wd : World} {e : TypeId} {size : Nat} (x : Obj) : ((wd.alloc x).alloc (.cells #[] e (0, 0))).drew.ownsRow wd.heap.size e size (.slice (some ⟨wd.heap.size + 1, 0, none⟩) 0 0) 0 [] :=
  own_empty (show ((wd.heap.push x).push _)[wd.heap.size + 1]? = _ by rw [show wd.heap.size + 1 = (wd.heap.push x).size by simp]; exact Array.getElem?_push_size) (Nat.le_succ _)
theorem far_cell {W w1 : World} {row : Option Nat} {b i : Nat} {v : Value} (hg : W.grownBy w1 row) (hc : W.cell? ⟨b, i, none⟩ = some v) (hne : some b ≠ row) : w1.cell? ⟨b, i, none⟩ = some v :=
  (hg.cell_far ⟨b, i, none⟩ (World.block_lt_of_cell? W _ hc) hne).trans hc
theorem step_append_none {P : Program} {ops : Array Oper} {o : Oper} {a : Act} {w : World} {K : Act → World → Prop} {Q : Exit → Act → World → Prop} {E : Prop} (base : Nat) (hgd : o.guard = none) (s x : Operand) (t : TypeId)
    (ho : o.op = .call { callee := .builtin .append, args := #[s, x], argTypes := #[t, t] })
    (e : TypeId) (i : TypeInfo) (size : Nat) (ht : P.underlying t = some (.slice e)) (hi : P.info? e = some i)
    (v : Value) (n : Nat) (xs : List Value) (hs : a.eval s = v) (hown : w.ownsRow base e size v n xs) (hx : a.eval x = .slice none 0 0) (h : K (a.put o.dst v) w) :
    if Region.wanted o (yielded ops a.tmps) = true then Oper.wp P o a w K Q else E := by
  have hw : Region.wanted o (yielded ops a.tmps) = true := by simp [Region.wanted, hgd]
  rw [if_pos hw]
  have hr := run_append_owned_none (P := P) (w := w) base t o.type e i size ht hi v n xs hown
  unfold Oper.wp execOp
  simp only [ho, resolve, invoke, builtin, Sem.run_bind, Sem.run_pure, Result.andThen_ok, List.map_toArray, List.map_cons, List.map_nil, hs, hx, hr]
  exact h
theorem setMany_app : ∀ (a b : List Value) (F : Array Value) (s : Nat), setMany F s (a ++ b) = setMany (setMany F s a) (s + a.length) b
  | [], b, F, s => rfl
  | x :: t, b, F, s => by
    rw [List.cons_append, setMany, setMany, setMany_app t b, List.length_cons, show s + 1 + t.length = s + (t.length + 1) by omega]
theorem run_copyK {P : Program} (w : World) (dT sT ty elem : TypeId) (K : Nat) (b o : Nat) (a : Addr) (dLen dCap sLen sCap n : Nat) (cs : List Value) (hu : P.underlying dT = some (.slice elem)) (hsz : (P.info? elem).map (·.size) = some K)
    (hn : Nat.min sLen dLen = n) (hcs : cs.length = n * K) (hsrc : ∀ j v, cs[j]? = some v → w.cell? (a.add j) = some v) (hc : ∀ j, j < cs.length → (w.cell? ⟨b, o + j, none⟩).isSome = true) (hf : ∀ j, j < cs.length → w.frozen? ⟨b, o + j, none⟩ = false) (h1 : ∀ v ∈ cs, v.oneCell' = true) :
    (Builtin.copy_ #[dT, sT] ty #[.slice (some ⟨b, o, none⟩) dLen dCap, .slice (some a) sLen sCap]).run P w = .ok (goInt n) (w.setCells b o cs) := by
  have hl := run_loadCells_list (P := P) w a cs hsrc
  have hst := run_storeCells_cells (P := P) b o cs 0 w (by simpa using hc) (by simpa using hf) h1
  rw [hcs] at hl
  cases hq : P.info? elem with
  | none => simp [hq] at hsz
  | some i =>
    have hi : i.size = K := by simpa [hq] using hsz
    simp [Builtin.copy_, run_underlying hu, Builtin.lenOf, Builtin.firstCells, sizeOf, typeInfo, hq, hi, hn, hl, hst]

/-- The cells of a row. -/
def flat53 : List S53 → List Value
  | [] => []
  | x :: t => enc53 x ++ flat53 t
theorem flat53_len : ∀ l : List S53, (flat53 l).length = l.length * 3
  | [] => rfl
  | x :: t => by rw [flat53, List.length_append, encl53, flat53_len t, List.length_cons]; omega
theorem flat53_app : ∀ a b : List S53, flat53 (a ++ b) = flat53 a ++ flat53 b
  | [], b => rfl
  | x :: t, b => by rw [List.cons_append, flat53, flat53, flat53_app t b, List.append_assoc]
theorem flat53_one : ∀ l : List S53, ∀ v ∈ flat53 l, v.oneCell' = true
  | [], v, h => by simp [flat53] at h
  | x :: t, v, h => by
    rw [flat53, List.mem_append] at h
    rcases h with h | h
    · exact enc153 x v h
    · exact flat53_one t v h
theorem flat53_drop : ∀ (l : List S53) (n : Nat), (flat53 l).drop (n * 3) = flat53 (l.drop n)
  | [], n => by simp [flat53]
  | x :: t, 0 => by simp
  | x :: t, n + 1 => by
    rw [List.drop_succ_cons, ← flat53_drop t n, flat53, show (n + 1) * 3 = (enc53 x).length + n * 3 by rw [encl53]; omega, List.drop_append, List.drop_eq_nil_of_le (by omega), Nat.add_sub_cancel_left, List.nil_append]
theorem flat53_take : ∀ (l : List S53) (n : Nat), (flat53 l).take (n * 3) = flat53 (l.take n)
  | [], n => by simp [flat53]
  | x :: t, 0 => by simp [flat53]
  | x :: t, n + 1 => by
    rw [List.take_succ_cons, flat53, flat53, ← flat53_take t n, show (n + 1) * 3 = (enc53 x).length + n * 3 by rw [encl53]; omega, List.take_append, List.take_of_length_le (by omega), Nat.add_sub_cancel_left]
theorem flat53_get (l : List S53) (j : Nat) (p : S53) (h : l[j]? = some p) : ((flat53 l).drop (j * 3)).take 3 = enc53 p := by
  obtain ⟨hj, e⟩ := List.getElem?_eq_some_iff.1 h
  rw [flat53_drop, List.drop_eq_getElem_cons hj, e, flat53, show 3 = (enc53 p).length from rfl, List.take_left']
  rfl
theorem flat53_of : ∀ (l : List S53) (inner : List Value), inner.length = l.length * 3 → (∀ j p, l[j]? = some p → (inner.drop (j * 3)).take 3 = enc53 p) → inner = flat53 l
  | [], inner, h, _ => by
    have : inner.length = 0 := by simpa using h
    rw [List.eq_nil_of_length_eq_zero this, flat53]
  | x :: t, inner, h, hh => by
    have h0 := hh 0 x rfl
    rw [Nat.zero_mul, List.drop_zero] at h0
    rw [List.length_cons] at h
    have ih := flat53_of t (inner.drop 3) (by rw [List.length_drop]; omega) fun j p hj => by
      rw [List.drop_drop, show 3 + j * 3 = (j + 1) * 3 by omega]
      exact hh (j + 1) p (by simpa using hj)
    rw [flat53, ← h0, ← ih, List.take_append_drop]
/-- What an own row is: its slice, its block, its cells. -/
theorem own53_of {w : World} {base : Nat} {ok : Nat → Prop} {v : Value} {l : List S53} (h : Kd.R k53 53 w base ok v l) : w.ownsRow base 53 3 v l.length (flat53 l) := by
  obtain ⟨h0, inner, ho, hl, hr⟩ := h
  have e := flat53_of l inner hl (fun j p hj => k53_openM (hr j p hj))
  subst e
  exact ho
theorem R53_of {w : World} {base : Nat} {ok : Nat → Prop} {v : Value} {l : List S53} (h : w.ownsRow base 53 3 v l.length (flat53 l)) (hk : ∀ k, v.ownBlock = some k → ok k) : Kd.R k53 53 w base ok v l := by
  refine ⟨hk, flat53 l, h, flat53_len l, fun j p hj => ?_⟩
  rw [show k53.sz = 3 from rfl, flat53_get l j p hj]
  exact k53_mkM _ _ _ _
/-- The cells of an own row, read. -/
theorem cells53_of {w : World} {base : Nat} {g n c : Nat} {l : List S53} (h : w.ownsRow base 53 3 (.slice (some ⟨g, 0, none⟩) n c) l.length (flat53 l)) : ∀ j u, (flat53 l)[j]? = some u → w.cell? ⟨g, j, none⟩ = some u := by
  rcases h.2 with ⟨e1, _⟩ | ⟨g', cap', cur, e2, hb, hh, hn, hc, hs, ht⟩
  · cases e1
  · injection e2 with e3 e4 e5
    injection e3 with e3
    injection e3 with e3
    subst e3
    intro j u hu
    have hj : j < l.length * 3 := by have := (List.getElem?_eq_some_iff.1 hu).1; rwa [flat53_len] at this
    rw [← ht, List.getElem?_take, if_pos hj, Array.getElem?_toList] at hu
    unfold World.cell?
    simp only [hh, Option.isSome_none, Bool.false_eq_true, if_false]
    exact hu
theorem news53_take {wd W : World} {g : Nat} {l : List S53} (src : ∀ j u, (flat53 l)[j]? = some u → wd.cell? ⟨g, j, none⟩ = some u) (n : Nat) (hb : Below wd.heap.size wd W) :
    ∀ j u, (flat53 (l.take n))[j]? = some u → W.cell? ((⟨g, 0, none⟩ : Addr).add j) = some u := by
  intro j u h
  have hs := src j u (by
    rw [← flat53_take, List.getElem?_take] at h
    split at h
    · exact h
    · cases h)
  rw [Addr.add_lit, Nat.zero_add]
  exact (hb.cell (p := ⟨g, j, none⟩) (World.block_lt_of_cell? wd _ hs)).trans hs
theorem news53_drop {wd W : World} {g : Nat} {l : List S53} (src : ∀ j u, (flat53 l)[j]? = some u → wd.cell? ⟨g, j, none⟩ = some u) (n : Nat) (hb : Below wd.heap.size wd W) :
    ∀ j u, (flat53 (l.drop n))[j]? = some u → W.cell? ((⟨g, n * 3, none⟩ : Addr).add j) = some u := by
  intro j u h
  have hs := src (n * 3 + j) u (by rw [← flat53_drop, List.getElem?_drop] at h; exact h)
  rw [Addr.add_lit]
  exact (hb.cell (p := ⟨g, n * 3 + j, none⟩) (World.block_lt_of_cell? wd _ hs)).trans hs
theorem finish53 {W : World} {base base' N : Nat} {v : Value} {X : List Value} {r : List S53} (h : W.ownsRow base' 53 3 v N X) (hN : N = r.length) (hX : X = flat53 r) (hb : base ≤ base') : Kd.R k53 53 W base (fun _ => True) v r := by
  subst hN hX
  exact R53_of (own_weaken h hb) (fun _ _ => trivial)
theorem setMany_flat53 : ∀ (xs : List S53) (d : Array S53) (k : Nat), k + xs.length ≤ d.size → setMany (flatK enc53 3 d) (k * 3) (flat53 xs) = flatK enc53 3 (lay d k xs)
  | [], d, k, _ => rfl
  | x :: t, d, k, h => by
    rw [List.length_cons] at h
    rw [flat53, setMany_app, setMany_set enc53 3 encl53 d k (by omega) x, lay, encl53, show k * 3 + 3 = (k + 1) * 3 by omega]
    exact setMany_flat53 t _ (k + 1) (by simp; omega)
theorem setCells_flat53 (w : World) (g : Nat) (d : Array S53) (k : Nat) (xs : List S53) (h : k + xs.length ≤ d.size) : (putRowK enc53 3 w g 0 d).setCells g (k * 3) (flat53 xs) = putRowK enc53 3 w g 0 (lay d k xs) := by
  unfold putRowK
  have := setCells_putRow w g 0 (flat53 xs) (k * 3) (flatK enc53 3 d) (by rw [flat53_len, size_flatK, ← Nat.add_mul]; exact Nat.mul_le_mul_right _ h)
  rw [Nat.zero_add] at this
  rw [this, setMany_flat53 xs d k h]
theorem put_final53 (l0 : List S53) (x : S53) (lo : Nat) (h : lo ≤ l0.length) : (lay (l0 ++ [x]).toArray (lo + 1) (l0.drop lo)).setIfInBounds lo x = (l0.take lo ++ x :: l0.drop lo).toArray := by
  have hs : (lay (l0 ++ [x]).toArray (lo + 1) (l0.drop lo)).size = l0.length + 1 := by
    have : ∀ (xs : List S53) (d : Array S53) (i : Nat), (lay d i xs).size = d.size := by
      intro xs
      induction xs with
      | nil => intro d i; rfl
      | cons x t ih => intro d i; rw [lay, ih]; simp
    rw [this]; simp
  apply Array.ext_getElem?
  intro j
  rw [Array.getElem?_setIfInBounds, lay_get? _ _ _ _ (by simp; omega), hs, List.length_drop, List.getElem?_toArray, List.getElem?_toArray]
  by_cases e : lo = j
  · subst e
    rw [if_pos rfl, if_pos (by omega), List.getElem?_append_right (by simp; omega)]
    simp [Nat.min_eq_left h]
  · rw [if_neg e]
    by_cases c : j < lo
    · rw [if_neg (by omega), List.getElem?_append_left (by omega), List.getElem?_append_left (by simp; omega), List.getElem?_take, if_pos c]
    · have hj : lo + 1 ≤ j := by omega
      rw [List.getElem?_append_right (l₁ := l0.take lo) (by simp; omega), List.length_take, Nat.min_eq_left h]
      obtain ⟨q, rfl⟩ : ∃ q, j = lo + 1 + q := ⟨j - (lo + 1), by omega⟩
      rw [show lo + 1 + q - lo = q + 1 by omega, List.getElem?_cons_succ]
      by_cases c2 : q < l0.length - lo
      · rw [if_pos ⟨by omega, by omega⟩, show lo + 1 + q - (lo + 1) = q by omega]
      · rw [if_neg (by omega), List.getElem?_eq_none (by simp; omega), List.getElem?_eq_none (by simp; omega)]


/-- The cells of a row. -/
def flat32 : List S32 → List Value
  | [] => []
  | x :: t => enc32 x ++ flat32 t
theorem flat32_len : ∀ l : List S32, (flat32 l).length = l.length * 4
  | [] => rfl
  | x :: t => by rw [flat32, List.length_append, encl32, flat32_len t, List.length_cons]; omega
theorem flat32_app : ∀ a b : List S32, flat32 (a ++ b) = flat32 a ++ flat32 b
  | [], b => rfl
  | x :: t, b => by rw [List.cons_append, flat32, flat32, flat32_app t b, List.append_assoc]
theorem flat32_one : ∀ l : List S32, ∀ v ∈ flat32 l, v.oneCell' = true
  | [], v, h => by simp [flat32] at h
  | x :: t, v, h => by
    rw [flat32, List.mem_append] at h
    rcases h with h | h
    · exact enc132 x v h
    · exact flat32_one t v h
theorem flat32_drop : ∀ (l : List S32) (n : Nat), (flat32 l).drop (n * 4) = flat32 (l.drop n)
  | [], n => by simp [flat32]
  | x :: t, 0 => by simp
  | x :: t, n + 1 => by
    rw [List.drop_succ_cons, ← flat32_drop t n, flat32, show (n + 1) * 4 = (enc32 x).length + n * 4 by rw [encl32]; omega, List.drop_append, List.drop_eq_nil_of_le (by omega), Nat.add_sub_cancel_left, List.nil_append]
theorem flat32_take : ∀ (l : List S32) (n : Nat), (flat32 l).take (n * 4) = flat32 (l.take n)
  | [], n => by simp [flat32]
  | x :: t, 0 => by simp [flat32]
  | x :: t, n + 1 => by
    rw [List.take_succ_cons, flat32, flat32, ← flat32_take t n, show (n + 1) * 4 = (enc32 x).length + n * 4 by rw [encl32]; omega, List.take_append, List.take_of_length_le (by omega), Nat.add_sub_cancel_left]
theorem flat32_get (l : List S32) (j : Nat) (p : S32) (h : l[j]? = some p) : ((flat32 l).drop (j * 4)).take 4 = enc32 p := by
  obtain ⟨hj, e⟩ := List.getElem?_eq_some_iff.1 h
  rw [flat32_drop, List.drop_eq_getElem_cons hj, e, flat32, show 4 = (enc32 p).length from rfl, List.take_left']
  rfl
theorem flat32_of : ∀ (l : List S32) (inner : List Value), inner.length = l.length * 4 → (∀ j p, l[j]? = some p → (inner.drop (j * 4)).take 4 = enc32 p) → inner = flat32 l
  | [], inner, h, _ => by
    have : inner.length = 0 := by simpa using h
    rw [List.eq_nil_of_length_eq_zero this, flat32]
  | x :: t, inner, h, hh => by
    have h0 := hh 0 x rfl
    rw [Nat.zero_mul, List.drop_zero] at h0
    rw [List.length_cons] at h
    have ih := flat32_of t (inner.drop 4) (by rw [List.length_drop]; omega) fun j p hj => by
      rw [List.drop_drop, show 4 + j * 4 = (j + 1) * 4 by omega]
      exact hh (j + 1) p (by simpa using hj)
    rw [flat32, ← h0, ← ih, List.take_append_drop]
/-- What an own row is: its slice, its block, its cells. -/
theorem own32_of {w : World} {base : Nat} {ok : Nat → Prop} {v : Value} {l : List S32} (h : Kd.R k32 32 w base ok v l) : w.ownsRow base 32 4 v l.length (flat32 l) := by
  obtain ⟨h0, inner, ho, hl, hr⟩ := h
  have e := flat32_of l inner hl (fun j p hj => k32_openM (hr j p hj))
  subst e
  exact ho
theorem R32_of {w : World} {base : Nat} {ok : Nat → Prop} {v : Value} {l : List S32} (h : w.ownsRow base 32 4 v l.length (flat32 l)) (hk : ∀ k, v.ownBlock = some k → ok k) : Kd.R k32 32 w base ok v l := by
  refine ⟨hk, flat32 l, h, flat32_len l, fun j p hj => ?_⟩
  rw [show k32.sz = 4 from rfl, flat32_get l j p hj]
  exact k32_mkM _ _ _ _
/-- The cells of an own row, read. -/
theorem cells32_of {w : World} {base : Nat} {g n c : Nat} {l : List S32} (h : w.ownsRow base 32 4 (.slice (some ⟨g, 0, none⟩) n c) l.length (flat32 l)) : ∀ j u, (flat32 l)[j]? = some u → w.cell? ⟨g, j, none⟩ = some u := by
  rcases h.2 with ⟨e1, _⟩ | ⟨g', cap', cur, e2, hb, hh, hn, hc, hs, ht⟩
  · cases e1
  · injection e2 with e3 e4 e5
    injection e3 with e3
    injection e3 with e3
    subst e3
    intro j u hu
    have hj : j < l.length * 4 := by have := (List.getElem?_eq_some_iff.1 hu).1; rwa [flat32_len] at this
    rw [← ht, List.getElem?_take, if_pos hj, Array.getElem?_toList] at hu
    unfold World.cell?
    simp only [hh, Option.isSome_none, Bool.false_eq_true, if_false]
    exact hu
theorem news32_take {wd W : World} {g : Nat} {l : List S32} (src : ∀ j u, (flat32 l)[j]? = some u → wd.cell? ⟨g, j, none⟩ = some u) (n : Nat) (hb : Below wd.heap.size wd W) :
    ∀ j u, (flat32 (l.take n))[j]? = some u → W.cell? ((⟨g, 0, none⟩ : Addr).add j) = some u := by
  intro j u h
  have hs := src j u (by
    rw [← flat32_take, List.getElem?_take] at h
    split at h
    · exact h
    · cases h)
  rw [Addr.add_lit, Nat.zero_add]
  exact (hb.cell (p := ⟨g, j, none⟩) (World.block_lt_of_cell? wd _ hs)).trans hs
theorem news32_drop {wd W : World} {g : Nat} {l : List S32} (src : ∀ j u, (flat32 l)[j]? = some u → wd.cell? ⟨g, j, none⟩ = some u) (n : Nat) (hb : Below wd.heap.size wd W) :
    ∀ j u, (flat32 (l.drop n))[j]? = some u → W.cell? ((⟨g, n * 4, none⟩ : Addr).add j) = some u := by
  intro j u h
  have hs := src (n * 4 + j) u (by rw [← flat32_drop, List.getElem?_drop] at h; exact h)
  rw [Addr.add_lit]
  exact (hb.cell (p := ⟨g, n * 4 + j, none⟩) (World.block_lt_of_cell? wd _ hs)).trans hs
theorem finish32 {W : World} {base base' N : Nat} {v : Value} {X : List Value} {r : List S32} (h : W.ownsRow base' 32 4 v N X) (hN : N = r.length) (hX : X = flat32 r) (hb : base ≤ base') : Kd.R k32 32 W base (fun _ => True) v r := by
  subst hN hX
  exact R32_of (own_weaken h hb) (fun _ _ => trivial)
theorem setMany_flat32 : ∀ (xs : List S32) (d : Array S32) (k : Nat), k + xs.length ≤ d.size → setMany (flatK enc32 4 d) (k * 4) (flat32 xs) = flatK enc32 4 (lay d k xs)
  | [], d, k, _ => rfl
  | x :: t, d, k, h => by
    rw [List.length_cons] at h
    rw [flat32, setMany_app, setMany_set enc32 4 encl32 d k (by omega) x, lay, encl32, show k * 4 + 4 = (k + 1) * 4 by omega]
    exact setMany_flat32 t _ (k + 1) (by simp; omega)
theorem setCells_flat32 (w : World) (g : Nat) (d : Array S32) (k : Nat) (xs : List S32) (h : k + xs.length ≤ d.size) : (putRowK enc32 4 w g 0 d).setCells g (k * 4) (flat32 xs) = putRowK enc32 4 w g 0 (lay d k xs) := by
  unfold putRowK
  have := setCells_putRow w g 0 (flat32 xs) (k * 4) (flatK enc32 4 d) (by rw [flat32_len, size_flatK, ← Nat.add_mul]; exact Nat.mul_le_mul_right _ h)
  rw [Nat.zero_add] at this
  rw [this, setMany_flat32 xs d k h]
theorem put_final32 (l0 : List S32) (x : S32) (lo : Nat) (h : lo ≤ l0.length) : (lay (l0 ++ [x]).toArray (lo + 1) (l0.drop lo)).setIfInBounds lo x = (l0.take lo ++ x :: l0.drop lo).toArray := by
  have hs : (lay (l0 ++ [x]).toArray (lo + 1) (l0.drop lo)).size = l0.length + 1 := by
    have : ∀ (xs : List S32) (d : Array S32) (i : Nat), (lay d i xs).size = d.size := by
      intro xs
      induction xs with
      | nil => intro d i; rfl
      | cons x t ih => intro d i; rw [lay, ih]; simp
    rw [this]; simp
  apply Array.ext_getElem?
  intro j
  rw [Array.getElem?_setIfInBounds, lay_get? _ _ _ _ (by simp; omega), hs, List.length_drop, List.getElem?_toArray, List.getElem?_toArray]
  by_cases e : lo = j
  · subst e
    rw [if_pos rfl, if_pos (by omega), List.getElem?_append_right (by simp; omega)]
    simp [Nat.min_eq_left h]
  · rw [if_neg e]
    by_cases c : j < lo
    · rw [if_neg (by omega), List.getElem?_append_left (by omega), List.getElem?_append_left (by simp; omega), List.getElem?_take, if_pos c]
    · have hj : lo + 1 ≤ j := by omega
      rw [List.getElem?_append_right (l₁ := l0.take lo) (by simp; omega), List.length_take, Nat.min_eq_left h]
      obtain ⟨q, rfl⟩ : ∃ q, j = lo + 1 + q := ⟨j - (lo + 1), by omega⟩
      rw [show lo + 1 + q - lo = q + 1 by omega, List.getElem?_cons_succ]
      by_cases c2 : q < l0.length - lo
      · rw [if_pos ⟨by omega, by omega⟩, show lo + 1 + q - (lo + 1) = q by omega]
      · rw [if_neg (by omega), List.getElem?_eq_none (by simp; omega), List.getElem?_eq_none (by simp; omega)]

end Go.Proofs.Ytehfommdgoffmaa.QObs
