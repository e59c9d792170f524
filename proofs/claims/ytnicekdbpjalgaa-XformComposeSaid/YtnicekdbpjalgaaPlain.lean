/- The plain mathematics of transformers and values of the chapter xform: no program in sight; arithmetic wraps at 64 bits. -/
import Derived.RowKit
namespace Go.Proofs.Ytnicekdbpjalgaa.Plain
open Go.RowKit

inductive Xf where
  | top | con (c : Int) | shf (b : Int) | mt (b c : Int) | bot
inductive Vl where
  | top | con (n : Int) | bot
deriving instance DecidableEq for Xf
deriving instance DecidableEq for Vl

def R (a : Int) : Prop := -9223372036854775808 ≤ a ∧ a ≤ 9223372036854775807
def Xf.k : Xf → Int | .top => 0 | .con _ => 1 | .shf _ => 2 | .mt _ _ => 3 | .bot => 4
def Xf.b : Xf → Int | .shf b => b | .mt b _ => b | _ => 0
def Xf.c : Xf → Int | .con c => c | .mt _ c => c | _ => 0
def Vl.k : Vl → Int | .top => 0 | .con _ => 1 | .bot => 2
def Vl.n : Vl → Int | .con n => n | _ => 0
def Xf.ok (x : Xf) : Prop := R x.b ∧ R x.c
def Vl.ok (v : Vl) : Prop := R v.n

def add (a b : Int) : Int := wrap64 (a + b)
def meetV : Vl → Vl → Vl
  | .top, w => w
  | v, .top => v
  | v, w => if v = w then v else .bot
def sum : Vl → Int → Vl
  | .con n, b => .con (add n b)
  | v, _ => v
def ap : Xf → Vl → Vl
  | _, .top => .top
  | .top, _ => .top
  | .con c, _ => .con c
  | .shf b, v => sum v b
  | .mt b c, v => meetV (sum v b) (.con c)
  | .bot, _ => .bot
def comp : Xf → Xf → Xf
  | .top, _ => .top
  | _, .top => .top
  | _, .con c => .con c
  | _, .bot => .bot
  | .bot, _ => .bot
  | .con c, .shf b => .con (add c b)
  | .con c, .mt b c' => if add c b = c' then .con c' else .bot
  | .shf b, .shf b' => .shf (add b b')
  | .shf b, .mt b' c' => .mt (add b b') c'
  | .mt b c, .shf b' => .mt (add b b') (add c b')
  | .mt b c, .mt b' c' => if add c b' = c' then .mt (add b b') c' else .bot
def meet : Xf → Xf → Xf
  | .top, y => y
  | x, .top => x
  | .con c, .con c' => if c = c' then .con c else .bot
  | .con c, .shf b => .mt b c
  | .shf b, .con c => .mt b c
  | .con c, .mt b c' => if c = c' then .mt b c' else .bot
  | .mt b c', .con c => if c = c' then .mt b c' else .bot
  | .shf b, .shf b' => if b = b' then .shf b else .bot
  | .shf b, .mt b' c => if b = b' then .mt b' c else .bot
  | .mt b' c, .shf b => if b = b' then .mt b' c else .bot
  | .mt b c, .mt b' c' => if b = b' ∧ c = c' then .mt b c else .bot
  | .bot, _ => .bot
  | _, .bot => .bot
def steps : Xf → Int | .top => 3 | .con _ => 2 | .shf _ => 2 | .mt _ _ => 1 | .bot => 0

theorem add_R (a b : Int) : R (add a b) := by unfold R add wrap64; omega
theorem add_comm (a b : Int) : add a b = add b a := by unfold add; rw [Int.add_comm]
theorem add_assoc (a b c : Int) : add (add a b) c = add a (add b c) := by unfold add wrap64; omega
theorem add_assoc' (a b c : Int) : add a (add b c) = add (add a b) c := (add_assoc a b c).symm
theorem add_inj {a a' : Int} (b : Int) (h : R a) (h' : R a') : add a b = add a' b ↔ a = a' := by unfold R at h h'; unfold add wrap64; constructor <;> (intro h; omega)
theorem add_injl {a a' : Int} (b : Int) (h : R a) (h' : R a') : add b a = add b a' ↔ a = a' := by rw [add_comm b a, add_comm b a', add_inj b h h']
theorem add_zero {a : Int} (h : R a) : add a 0 = a := by unfold R at h; unfold add wrap64; omega
theorem wrap_id {a : Int} (h : R a) : wrap64 a = a := by unfold R at h; unfold wrap64; omega
theorem R0 : R 0 := by unfold R; omega

/-- The three shapes of a value, the five of a transformer, from its numbers. -/
theorem xf_of {a b c : Int} (h : (a = 0 ∧ b = 0 ∧ c = 0) ∨ (a = 1 ∧ b = 0) ∨ (a = 2 ∧ c = 0) ∨ a = 3 ∨ (a = 4 ∧ b = 0 ∧ c = 0)) : ∃ x : Xf, a = x.k ∧ b = x.b ∧ c = x.c := by
  rcases h with ⟨rfl, rfl, rfl⟩ | ⟨rfl, rfl⟩ | ⟨rfl, rfl⟩ | rfl | ⟨rfl, rfl, rfl⟩
  · exact ⟨.top, rfl, rfl, rfl⟩
  · exact ⟨.con c, rfl, rfl, rfl⟩
  · exact ⟨.shf b, rfl, rfl, rfl⟩
  · exact ⟨.mt b c, rfl, rfl, rfl⟩
  · exact ⟨.bot, rfl, rfl, rfl⟩
theorem vl_of {a n : Int} (h : (a = 0 ∧ n = 0) ∨ a = 1 ∨ (a = 2 ∧ n = 0)) : ∃ v : Vl, a = v.k ∧ n = v.n := by
  rcases h with ⟨rfl, rfl⟩ | rfl | ⟨rfl, rfl⟩
  · exact ⟨.top, rfl, rfl⟩
  · exact ⟨.con n, rfl, rfl⟩
  · exact ⟨.bot, rfl, rfl⟩
theorem xf_eq {x y : Xf} : x = y ↔ x.k = y.k ∧ x.b = y.b ∧ x.c = y.c := by
  cases x <;> cases y <;> simp [Xf.k, Xf.b, Xf.c]
theorem vl_eq {v w : Vl} : v = w ↔ v.k = w.k ∧ v.n = w.n := by
  cases v <;> cases w <;> simp [Vl.k, Vl.n]
theorem xf_beq (x y : Xf) : (x.k == y.k && (x.b == y.b && (x.c == y.c))) = decide (x = y) := by
  rw [Bool.eq_iff_iff]; simp [xf_eq]
theorem vl_beq (v w : Vl) : (v.k == w.k && (v.n == w.n)) = decide (v = w) := by
  rw [Bool.eq_iff_iff]; simp [vl_eq]

theorem meetV_ok {v w : Vl} (h : v.ok) (h' : w.ok) : (meetV v w).ok := by
  unfold Vl.ok at *
  cases v <;> cases w <;> simp only [meetV] <;> (try split) <;> simp_all [Vl.n, R0]
theorem sum_ok {v : Vl} (b : Int) (h : v.ok) : (sum v b).ok := by
  unfold Vl.ok at *
  cases v <;> simp_all [sum, Vl.n, R0, add_R]
theorem ap_ok {x : Xf} {v : Vl} (hx : x.ok) (h : v.ok) : (ap x v).ok := by
  cases x <;> cases v <;> simp only [ap] <;> first
    | exact R0
    | exact hx.2
    | exact sum_ok _ h
    | exact meetV_ok (sum_ok _ h) hx.2
theorem comp_ok {x y : Xf} (hx : x.ok) (hy : y.ok) : (comp x y).ok := by
  unfold Xf.ok at *
  cases x <;> cases y <;> simp only [comp] <;> (try split) <;> simp_all [Xf.b, Xf.c, R0, add_R]
theorem meet_ok {x y : Xf} (hx : x.ok) (hy : y.ok) : (meet x y).ok := by
  unfold Xf.ok at *
  cases x <;> cases y <;> simp only [meet] <;> (try split) <;> simp_all [Xf.b, Xf.c, R0]

theorem meetV_comm (v w : Vl) : meetV v w = meetV w v := by
  cases v <;> cases w <;> simp only [meetV] <;> (repeat' split) <;> simp_all
theorem meetV_assoc (u v w : Vl) : meetV (meetV u v) w = meetV u (meetV v w) := by
  cases u <;> cases v <;> cases w <;> grind [meetV]
theorem meetV_self (v : Vl) : meetV v v = v := by cases v <;> simp [meetV]
theorem ap_comp {x y : Xf} {v : Vl} (hx : x.ok) (hy : y.ok) (hv : v.ok) : ap (comp x y) v = ap y (ap x v) := by
  unfold Xf.ok Vl.ok at *
  cases x <;> cases y <;> cases v <;> simp only [Xf.b, Xf.c, Vl.n] at * <;> (try simp only [meetV, sum, ap, comp]) <;> grind [meetV, sum, ap, add_assoc', add_inj, add_R]
theorem ap_meet {x y : Xf} {v : Vl} (hx : x.ok) (hy : y.ok) (hv : v.ok) : ap (meet x y) v = meetV (ap x v) (ap y v) := by
  unfold Xf.ok Vl.ok at *
  cases x <;> cases y <;> cases v <;> simp only [Xf.b, Xf.c, Vl.n] at * <;> (try simp only [meetV, sum, ap, meet]) <;> grind [meetV, sum, ap, add_injl, add_inj, add_R]
theorem ap_distr {x : Xf} {v w : Vl} (hx : x.ok) (hv : v.ok) (hw : w.ok) : ap x (meetV v w) = meetV (ap x v) (ap x w) := by
  unfold Xf.ok Vl.ok at *
  cases x <;> cases v <;> cases w <;> simp only [Xf.b, Xf.c, Vl.n] at * <;> grind [meetV, sum, ap, add_injl, add_inj, add_R]
theorem meet_comm (x y : Xf) : meet x y = meet y x := by
  cases x <;> cases y <;> grind [meet]
theorem meet_assoc (x y z : Xf) : meet (meet x y) z = meet x (meet y z) := by
  cases x <;> cases y <;> cases z <;> grind [meet]
theorem meet_self (x : Xf) : meet x x = x := by cases x <;> simp [meet]
theorem meet_top (x : Xf) : meet x .top = x := by cases x <;> simp [meet]
theorem steps_meet (x y : Xf) : meet x y = x ∨ steps (meet x y) < steps x := by
  cases x <;> cases y <;> grind [meet, steps]
theorem comp_assoc {x y z : Xf} (hx : x.ok) (hy : y.ok) (hz : z.ok) : comp (comp x y) z = comp x (comp y z) := by
  unfold Xf.ok at *
  cases x <;> cases y <;> cases z <;> simp only [Xf.b, Xf.c] at * <;> (try simp only [comp]) <;> grind [comp, add_assoc', add_inj, add_injl, add_R]
theorem comp_meet_l {x y z : Xf} (hx : x.ok) (hy : y.ok) (hz : z.ok) : comp x (meet y z) = meet (comp x y) (comp x z) := by
  unfold Xf.ok at *
  cases x <;> cases y <;> cases z <;> simp only [Xf.b, Xf.c] at * <;> (try simp only [comp, meet]) <;> grind [comp, meet, add_assoc', add_inj, add_injl, add_R]
theorem comp_meet_r {x y z : Xf} (hx : x.ok) (hy : y.ok) (hz : z.ok) : comp (meet x y) z = meet (comp x z) (comp y z) := by
  unfold Xf.ok at *
  cases x <;> cases y <;> cases z <;> simp only [Xf.b, Xf.c] at * <;> (try simp only [comp, meet]) <;> grind [comp, meet, add_assoc', add_inj, add_injl, add_R]
end Go.Proofs.Ytnicekdbpjalgaa.Plain
