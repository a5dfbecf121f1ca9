/- Plain lemmas on floats of 64 bits, as words: how they stand to each other; that sums grow with what is summed. No program in sight. -/
import Ieee.Arith
import Derived.Laws.FloatBits
namespace Go.Proofs.Ytlbjcdfognofgaa.Fl
open Ieee

/-! ### The rungs, and what they stand for -/

/-- The magnitude of a finite rung, in units of the least place. -/
def mg (r : Nat) : Nat := if r < 4503599627370496 then r else (4503599627370496 + r % 4503599627370496) * 2 ^ (r / 4503599627370496 - 1)

def rung (x : Nat) : Nat := x % 9223372036854775808
def sgn (x : Nat) : Bool := x / 9223372036854775808 % 2 == 1
/-- Is it no number? -/
def isNan (x : Nat) : Prop := 9218868437227405312 < rung x
instance (x : Nat) : Decidable (isNan x) := inferInstanceAs (Decidable (_ < _))
/-- The word's place among the words, both zeros being the same. -/
def sval (x : Nat) : Int := if sgn x then -(rung x : Int) else rung x

theorem binade_val : double.binade = 4503599627370496 := by decide
theorem infRung_val : double.infRung = 9218868437227405312 := by decide
theorem signWeight_val : double.signWeight = 9223372036854775808 := by decide
theorem leastPlace_val : double.leastPlace = -1074 := by decide

theorem read_eq (x : Nat) : double.read x =
    if rung x < 4503599627370496 then .number (sgn x) (rung x) (-1074)
    else if rung x < 9218868437227405312 then .number (sgn x) (4503599627370496 + rung x % 4503599627370496) (-1074 + (rung x / 4503599627370496 - 1 : Nat))
    else if rung x = 9218868437227405312 then .infinity (sgn x) else .nan (sgn x) (rung x - 9218868437227405312) := by
  unfold Format.read
  simp only [binade_val, infRung_val, signWeight_val, leastPlace_val]
  rfl

theorem mg_lt {r r' : Nat} (h : r < r') : mg r < mg r' := by
  unfold mg
  by_cases h1 : r' < 4503599627370496
  · rw [if_pos (by omega), if_pos h1]; exact h
  · rw [if_neg h1]
    have hp' : 1 ≤ 2 ^ (r' / 4503599627370496 - 1) := Nat.one_le_two_pow
    by_cases h0 : r < 4503599627370496
    · rw [if_pos h0]
      have : 4503599627370496 * 1 ≤ (4503599627370496 + r' % 4503599627370496) * 2 ^ (r' / 4503599627370496 - 1) := Nat.mul_le_mul (by omega) hp'
      omega
    · rw [if_neg h0]
      rcases Nat.lt_or_eq_of_le (show r / 4503599627370496 ≤ r' / 4503599627370496 by omega) with hq | hq
      · have hp : (2 : Nat) ^ (r / 4503599627370496 - 1 + 1) ≤ 2 ^ (r' / 4503599627370496 - 1) := Nat.pow_le_pow_right (by decide) (by omega)
        have h2 : (4503599627370496 + r % 4503599627370496) * 2 ^ (r / 4503599627370496 - 1) < (4503599627370496 + 4503599627370496) * 2 ^ (r / 4503599627370496 - 1) :=
          Nat.mul_lt_mul_of_pos_right (by omega) (Nat.two_pow_pos _)
        have h3 : (4503599627370496 + 4503599627370496) * 2 ^ (r / 4503599627370496 - 1) = 4503599627370496 * 2 ^ (r / 4503599627370496 - 1 + 1) := by rw [Nat.pow_succ]; omega
        have h4 : 4503599627370496 * 2 ^ (r / 4503599627370496 - 1 + 1) ≤ (4503599627370496 + r' % 4503599627370496) * 2 ^ (r' / 4503599627370496 - 1) := Nat.mul_le_mul (by omega) hp
        omega
      · rw [hq]
        exact Nat.mul_lt_mul_of_pos_right (by omega) (Nat.two_pow_pos _)

theorem mg_zero : mg 0 = 0 := rfl

/-- The value of a finite word, in units of the least place. -/
def vl (x : Nat) : Int := if sgn x then -(mg (rung x) : Int) else mg (rung x)

theorem vl_lt {x y : Nat} : vl x < vl y ↔ sval x < sval y := by
  unfold vl sval
  have m0 : ∀ r : Nat, 0 < r → 0 < mg r := fun r h => by have := mg_lt h; rw [mg_zero] at this; exact this
  rcases Nat.lt_trichotomy (rung x) (rung y) with h | h | h
  · have := mg_lt h
    have hy := m0 (rung y) (by omega)
    cases sgn x <;> cases sgn y <;> simp <;> omega
  · rw [h]
    rcases Nat.eq_zero_or_pos (rung y) with h0 | h0
    · rw [h0, mg_zero]
    · have hy := m0 (rung y) h0
      cases sgn x <;> cases sgn y <;> simp <;> omega
  · have := mg_lt h
    have hx := m0 (rung x) (by omega)
    cases sgn x <;> cases sgn y <;> simp <;> omega

theorem vl_le {x y : Nat} : vl x ≤ vl y ↔ sval x ≤ sval y := by
  have := @vl_lt y x
  omega

theorem cmp_lt {a b : Int} (h : a < b) : compare a b = .lt := by rw [Int.compare_eq_ite_lt, if_pos h]
theorem cmp_gt {a b : Int} (h : b < a) : compare a b = .gt := by rw [Int.compare_eq_ite_lt, if_neg (by omega), if_pos h]
theorem cmp_eq {a b : Int} (h : a = b) : compare a b = .eq := by rw [Int.compare_eq_ite_lt, if_neg (by omega), if_neg (by omega)]

theorem compare_of (a b c d : Int) (h1 : a < b ↔ c < d) (h2 : b < a ↔ d < c) : compare a b = compare c d := by
  simp only [Int.compare_eq_ite_lt, h1, h2]

/-- A finite word read: its magnitude and its place. -/
theorem read_fin {x : Nat} (h : rung x < 9218868437227405312) : ∃ m a : Nat, double.read x = .number (sgn x) m (-1074 + (a : Int)) ∧ m * 2 ^ a = mg (rung x) := by
  rw [read_eq]
  by_cases h0 : rung x < 4503599627370496
  · rw [if_pos h0]
    exact ⟨rung x, 0, by simp, by rw [mg, if_pos h0]; simp⟩
  · rw [if_neg h0, if_pos h]
    exact ⟨_, _, rfl, by rw [mg, if_neg h0]⟩

theorem signed_val (s : Bool) (m k : Nat) : signed s m k = if s then -((m * 2 ^ k : Nat) : Int) else ((m * 2 ^ k : Nat) : Int) := by
  unfold signed
  rw [Nat.shiftLeft_eq]

theorem scale (s : Bool) (m a c : Nat) (h : c ≤ a) : signed s m (a - c) * ((2 ^ c : Nat) : Int) = if s then -((m * 2 ^ a : Nat) : Int) else ((m * 2 ^ a : Nat) : Int) := by
  have e : m * 2 ^ (a - c) * 2 ^ c = m * 2 ^ a := by rw [Nat.mul_assoc, ← Nat.pow_add]; congr 2; omega
  rw [signed_val]
  cases s
  · simp only [Bool.false_eq_true, if_false, ← Int.natCast_mul, e]
  · simp only [if_true, Int.neg_mul, ← Int.natCast_mul, e]

theorem order_fin {x y : Nat} (hx : rung x < 9218868437227405312) (hy : rung y < 9218868437227405312) : double.order x y = some (compare (sval x) (sval y)) := by
  obtain ⟨m, a, e1, f1⟩ := read_fin hx
  obtain ⟨n, b, e2, f2⟩ := read_fin hy
  unfold Format.order
  rw [e1, e2]
  simp only [Datum.order]
  congr 1
  have hb : min (-1074 + (a : Int)) (-1074 + (b : Int)) = -1074 + ((min a b : Nat) : Int) := by omega
  rw [hb, show ((-1074 + (a : Int)) - (-1074 + ((min a b : Nat) : Int))).toNat = a - min a b by omega, show ((-1074 + (b : Int)) - (-1074 + ((min a b : Nat) : Int))).toNat = b - min a b by omega]
  have s1 := scale (sgn x) m a (min a b) (Nat.min_le_left _ _)
  have s2 := scale (sgn y) n b (min a b) (Nat.min_le_right _ _)
  rw [f1] at s1
  rw [f2] at s2
  have hp : (0 : Int) < ((2 ^ min a b : Nat) : Int) := by have := Nat.two_pow_pos (min a b); omega
  refine compare_of _ _ _ _ ?_ ?_
  · rw [← vl_lt, ← Int.mul_lt_mul_right hp, s1, s2]; rfl
  · rw [← vl_lt, ← Int.mul_lt_mul_right hp, s1, s2]; rfl

theorem order_num {x y : Nat} (hx : ¬ isNan x) (hy : ¬ isNan y) : double.order x y = some (compare (sval x) (sval y)) := by
  unfold isNan at hx hy
  by_cases h1 : rung x < 9218868437227405312
  · by_cases h2 : rung y < 9218868437227405312
    · exact order_fin h1 h2
    · have e2 : double.read y = .infinity (sgn y) := by rw [read_eq, if_neg (by omega), if_neg h2, if_pos (by omega)]
      obtain ⟨m, a, e1, _⟩ := read_fin h1
      unfold Format.order
      rw [e1, e2]
      simp only [Datum.order, sval]
      congr 1
      cases sgn y
      · simp only [Bool.false_eq_true, if_false]
        exact (cmp_lt (by split <;> omega)).symm
      · simp only [if_true]
        exact (cmp_gt (by split <;> omega)).symm
  · have e1 : double.read x = .infinity (sgn x) := by rw [read_eq, if_neg (by omega), if_neg h1, if_pos (by omega)]
    by_cases h2 : rung y < 9218868437227405312
    · obtain ⟨m, a, e2, _⟩ := read_fin h2
      unfold Format.order
      rw [e1, e2]
      simp only [Datum.order, sval]
      congr 1
      cases sgn x
      · simp only [Bool.false_eq_true, if_false]
        exact (cmp_gt (by split <;> omega)).symm
      · simp only [if_true]
        exact (cmp_lt (by split <;> omega)).symm
    · have e2 : double.read y = .infinity (sgn y) := by rw [read_eq, if_neg (by omega), if_neg h2, if_pos (by omega)]
      unfold Format.order
      rw [e1, e2]
      simp only [Datum.order, sval]
      congr 1
      have hr : rung x = rung y := by omega
      have h0 : 0 < rung y := by omega
      rw [hr]
      cases sgn x <;> cases sgn y <;> simp only [Bool.false_eq_true, if_false, if_true]
      · rw [cmp_eq rfl]; rfl
      · rw [cmp_gt (by omega)]; rfl
      · rw [cmp_lt (by omega)]; rfl
      · rw [cmp_eq rfl]; rfl

theorem order_nan_left {x : Nat} (y : Nat) (hx : isNan x) : double.order x y = none := by
  unfold isNan at hx
  have e1 : double.read x = .nan (sgn x) (rung x - 9218868437227405312) := by rw [read_eq, if_neg (by omega), if_neg (by omega), if_neg (by omega)]
  unfold Format.order
  rw [e1]
  rfl

theorem order_nan_right (x : Nat) {y : Nat} (hy : isNan y) : double.order x y = none := by
  unfold isNan at hy
  have e1 : double.read y = .nan (sgn y) (rung y - 9218868437227405312) := by rw [read_eq, if_neg (by omega), if_neg (by omega), if_neg (by omega)]
  unfold Format.order
  rw [e1]
  cases double.read x <;> rfl

/-! ### Sums -/

/-- A number divided by a power of two, to the nearest, between two the even one. -/
def rne (n l : Nat) : Nat := n / 2 ^ l + (2 ^ l < 2 * (n % 2 ^ l) || (2 ^ l == 2 * (n % 2 ^ l) && n / 2 ^ l % 2 == 1)).toNat

/-- The rung nearest to a magnitude. -/
def rg (n : Nat) : Nat := min ((n.log2 - 52) * 4503599627370496 + rne n (n.log2 - 52)) 9218868437227405312

theorem rne_bounds (n l : Nat) : n / 2 ^ l ≤ rne n l ∧ rne n l ≤ n / 2 ^ l + 1 := by
  unfold rne
  cases (2 ^ l < 2 * (n % 2 ^ l) || (2 ^ l == 2 * (n % 2 ^ l) && n / 2 ^ l % 2 == 1) : Bool) <;> simp

theorem rne_mono {n n' : Nat} (h : n ≤ n') (l : Nat) : rne n l ≤ rne n' l := by
  have hd : n / 2 ^ l ≤ n' / 2 ^ l := Nat.div_le_div_right h
  rcases Nat.lt_or_eq_of_le hd with hq | hq
  · have h1 := (rne_bounds n l).2
    have h2 := (rne_bounds n' l).1
    omega
  · have e1 := Nat.div_add_mod n (2 ^ l)
    have e2 := Nat.div_add_mod n' (2 ^ l)
    rw [hq] at e1
    have hr : n % 2 ^ l ≤ n' % 2 ^ l := by omega
    unfold rne
    rw [hq]
    refine Nat.add_le_add_left ?_ _
    have : (2 ^ l < 2 * (n % 2 ^ l) || (2 ^ l == 2 * (n % 2 ^ l) && n' / 2 ^ l % 2 == 1)) = true → (2 ^ l < 2 * (n' % 2 ^ l) || (2 ^ l == 2 * (n' % 2 ^ l) && n' / 2 ^ l % 2 == 1)) = true := by
      intro h
      simp only [Bool.or_eq_true, decide_eq_true_eq, Bool.and_eq_true, beq_iff_eq] at h ⊢
      omega
    generalize (2 ^ l < 2 * (n % 2 ^ l) || (2 ^ l == 2 * (n % 2 ^ l) && n' / 2 ^ l % 2 == 1) : Bool) = p at *
    generalize (2 ^ l < 2 * (n' % 2 ^ l) || (2 ^ l == 2 * (n' % 2 ^ l) && n' / 2 ^ l % 2 == 1) : Bool) = q at *
    cases p <;> cases q <;> simp_all

theorem log2_mono {n n' : Nat} (h : n ≤ n') : n.log2 ≤ n'.log2 := by
  rcases Nat.eq_zero_or_pos n with rfl | h0
  · simp
  · exact (Nat.le_log2 (by omega)).2 (Nat.le_trans (Nat.log2_self_le (by omega)) h)

theorem rg_mono {n n' : Nat} (h : n ≤ n') : rg n ≤ rg n' := by
  unfold rg
  have hl := log2_mono h
  refine Nat.le_min.2 ⟨Nat.le_trans (Nat.min_le_left _ _) ?_, Nat.min_le_right _ _⟩
  rcases Nat.lt_or_eq_of_le (show n.log2 - 52 ≤ n'.log2 - 52 by omega) with hq | hq
  · have h1 := (rne_bounds n (n.log2 - 52)).2
    have h2 := (rne_bounds n' (n'.log2 - 52)).1
    have h3 : n / 2 ^ (n.log2 - 52) < 2 ^ 53 := by
      rw [Nat.div_lt_iff_lt_mul (Nat.two_pow_pos _), ← Nat.pow_add]
      exact Nat.lt_of_lt_of_le (Nat.lt_log2_self) (Nat.pow_le_pow_right (by decide) (by omega))
    have h4 : 2 ^ 52 ≤ n' / 2 ^ (n'.log2 - 52) := by
      rw [Nat.le_div_iff_mul_le (Nat.two_pow_pos _), ← Nat.pow_add]
      exact Nat.le_trans (Nat.pow_le_pow_right (by decide) (by omega)) (Nat.log2_self_le (by intro e; rw [e] at hq; simp at hq))
    have e3 : (2 : Nat) ^ 53 = 9007199254740992 := by decide
    have e4 : (2 : Nat) ^ 52 = 4503599627370496 := by decide
    rw [e3] at h3
    rw [e4] at h4
    omega
  · rw [hq]
    exact Nat.add_le_add_left (rne_mono h _) _

theorem rg_zero : rg 0 = 0 := by decide

theorem rg_le (n : Nat) : rg n ≤ 9218868437227405312 := Nat.min_le_right _ _

theorem cut_even (neg : Bool) (n d : Nat) (h : d ≤ n.log2 + 2) : Toward.even.cut neg n d = rne n d := by
  unfold Toward.cut rne
  simp only [Nat.min_eq_left h, Nat.shiftLeft_eq, Nat.one_mul]

theorem rne_scale (m p d : Nat) : rne (m * 2 ^ p) (d + p) = rne m d := by
  have e : (2 : Nat) ^ (d + p) = 2 ^ d * 2 ^ p := Nat.pow_add _ _ _
  have hp := Nat.two_pow_pos p
  have hq : m * 2 ^ p / 2 ^ (d + p) = m / 2 ^ d := by rw [e]; exact Nat.mul_div_mul_right _ _ hp
  have hr : m * 2 ^ p % 2 ^ (d + p) = m % 2 ^ d * 2 ^ p := by rw [e]; exact Nat.mul_mod_mul_right _ _ _
  unfold rne
  rw [hq, hr]
  congr 2
  have e1 : (2 ^ (d + p) < 2 * (m % 2 ^ d * 2 ^ p)) ↔ 2 ^ d < 2 * (m % 2 ^ d) := by
    rw [e, ← Nat.mul_assoc]; exact Nat.mul_lt_mul_right hp
  have e2 : ((2 ^ (d + p) == 2 * (m % 2 ^ d * 2 ^ p)) : Bool) = (2 ^ d == 2 * (m % 2 ^ d)) := by
    rw [Bool.eq_iff_iff, beq_iff_eq, beq_iff_eq, e, ← Nat.mul_assoc]
    exact Nat.mul_left_inj (by omega)
  rw [e2]
  simp only [e1]

theorem log2_mul (m p : Nat) (h : m ≠ 0) : (m * 2 ^ p).log2 = m.log2 + p := by
  have hm := Nat.log2_self_le h
  have hl := Nat.lt_log2_self (n := m)
  have h0 : m * 2 ^ p ≠ 0 := Nat.mul_ne_zero h (by have := Nat.two_pow_pos p; omega)
  refine Nat.le_antisymm ?_ ?_
  · have : m * 2 ^ p < 2 ^ (m.log2 + p + 1) := by
      rw [show m.log2 + p + 1 = (m.log2 + 1) + p by omega, Nat.pow_add]
      exact Nat.mul_lt_mul_of_pos_right hl (Nat.two_pow_pos p)
    have := (Nat.log2_lt h0).2 this
    omega
  · rw [Nat.le_log2 h0, Nat.pow_add]
    exact Nat.mul_le_mul_right _ hm

theorem nearest_eq (neg : Bool) (m p : Nat) : double.nearest neg m (-1074 + (p : Int)) = double.word neg (rg (m * 2 ^ p)) := by
  unfold Format.nearest
  by_cases h0 : m = 0
  · rw [if_pos h0, h0, Nat.zero_mul, rg_zero]
  · rw [if_neg h0]
    simp only [leastPlace_val, binade_val, infRung_val, show double.fractionBits = 52 from rfl]
    have hl := log2_mul m p h0
    unfold rg
    rw [hl]
    refine congrArg (fun q => double.word neg (min q 9218868437227405312)) ?_
    by_cases h1 : m.log2 + p ≤ 52
    · rw [show max (-1074 + (p : Int) + (m.log2 : Int) - (52 : Nat)) (-1074) = -1074 by omega, show (-1074 - -1074 : Int).toNat = 0 by omega, show (-1074 + (p : Int) - -1074).toNat = p by omega,
        show (-1074 - (-1074 + (p : Int))).toNat = 0 by omega, show m.log2 + p - 52 = 0 by omega, cut_even _ _ _ (by omega), Nat.shiftLeft_eq]
    · rw [show max (-1074 + (p : Int) + (m.log2 : Int) - (52 : Nat)) (-1074) = -1074 + ((m.log2 + p - 52 : Nat) : Int) by omega,
        show (-1074 + ((m.log2 + p - 52 : Nat) : Int) - -1074).toNat = m.log2 + p - 52 by omega]
      refine congrArg (fun q => (m.log2 + p - 52) * 4503599627370496 + q) ?_
      by_cases h2 : m.log2 ≤ 52
      · rw [show (-1074 + (p : Int) - (-1074 + ((m.log2 + p - 52 : Nat) : Int))).toNat = 52 - m.log2 by omega,
          show (-1074 + ((m.log2 + p - 52 : Nat) : Int) - (-1074 + (p : Int))).toNat = 0 by omega, cut_even _ _ _ (by omega), Nat.shiftLeft_eq]
        have e := rne_scale (m * 2 ^ (52 - m.log2)) (m.log2 + p - 52) 0
        rw [Nat.mul_assoc, ← Nat.pow_add, show 52 - m.log2 + (m.log2 + p - 52) = p by omega, Nat.zero_add] at e
        exact e.symm
      · rw [show (-1074 + (p : Int) - (-1074 + ((m.log2 + p - 52 : Nat) : Int))).toNat = 0 by omega,
          show (-1074 + ((m.log2 + p - 52 : Nat) : Int) - (-1074 + (p : Int))).toNat = m.log2 - 52 by omega, cut_even _ _ _ (by rw [Nat.shiftLeft_zero]; omega), Nat.shiftLeft_zero]
        have e := rne_scale m p (m.log2 - 52)
        rw [show m.log2 - 52 + p = m.log2 + p - 52 by omega] at e
        exact e.symm

/-- The place of a value's nearest word. -/
def rs (z : Int) : Int := if z < 0 then -(rg z.natAbs : Int) else rg z.natAbs

theorem rs_mono {z z' : Int} (h : z ≤ z') : rs z ≤ rs z' := by
  unfold rs
  by_cases h1 : z < 0
  · rw [if_pos h1]
    by_cases h2 : z' < 0
    · rw [if_pos h2]
      have := rg_mono (show z'.natAbs ≤ z.natAbs by omega)
      omega
    · rw [if_neg h2]; omega
  · rw [if_neg h1, if_neg (by omega)]
    have := rg_mono (show z.natAbs ≤ z'.natAbs by omega)
    omega

theorem word_parts (neg : Bool) (r : Nat) (h : r < 9223372036854775808) : rung (double.word neg r) = r ∧ sgn (double.word neg r) = neg := by
  unfold Format.word rung sgn
  rw [signWeight_val]
  cases neg
  · simp only [Bool.false_eq_true, if_false]
    refine ⟨by omega, ?_⟩
    rw [show r / 9223372036854775808 = 0 by omega]; rfl
  · simp only [if_true]
    refine ⟨by omega, ?_⟩
    rw [show (9223372036854775808 + r) / 9223372036854775808 = 1 by omega]; rfl

/-- The sum of two finite words is a word; its place is that of the exact sum. -/
theorem add_fin {x y : Nat} (hx : rung x < 9218868437227405312) (hy : rung y < 9218868437227405312) : ∃ s, double.add x y = some s ∧ sval s = rs (vl x + vl y) ∧ ¬ isNan s := by
  obtain ⟨m, a, e1, f1⟩ := read_fin hx
  obtain ⟨n, b, e2, f2⟩ := read_fin hy
  unfold Format.add
  rw [e1, e2]
  simp only [Datum.sum, Option.map_some]
  have hb : min (-1074 + (a : Int)) (-1074 + (b : Int)) = -1074 + ((min a b : Nat) : Int) := by omega
  rw [hb, show ((-1074 + (a : Int)) - (-1074 + ((min a b : Nat) : Int))).toNat = a - min a b by omega, show ((-1074 + (b : Int)) - (-1074 + ((min a b : Nat) : Int))).toNat = b - min a b by omega]
  have s1 := scale (sgn x) m a (min a b) (Nat.min_le_left _ _)
  have s2 := scale (sgn y) n b (min a b) (Nat.min_le_right _ _)
  rw [f1] at s1
  rw [f2] at s2
  have hv : (signed (sgn x) m (a - min a b) + signed (sgn y) n (b - min a b)) * ((2 ^ min a b : Nat) : Int) = vl x + vl y := by rw [Int.add_mul, s1, s2]; rfl
  generalize signed (sgn x) m (a - min a b) + signed (sgn y) n (b - min a b) = t at hv ⊢
  have hp : (0 : Int) < ((2 ^ min a b : Nat) : Int) := by have := Nat.two_pow_pos (min a b); omega
  have hab : (vl x + vl y).natAbs = t.natAbs * 2 ^ min a b := by rw [← hv, Int.natAbs_mul]; rfl
  refine ⟨_, rfl, ?_, ?_⟩
  · simp only [Format.write, nearest_eq, ← hab]
    have hr := rg_le (vl x + vl y).natAbs
    obtain ⟨w1, w2⟩ := word_parts (if t = 0 then sgn x && sgn y else decide (t < 0)) (rg (vl x + vl y).natAbs) (by omega)
    rw [sval, w1, w2, rs]
    rcases Int.lt_trichotomy t 0 with h | h | h
    · have hneg : vl x + vl y < 0 := by rw [← hv]; exact Int.mul_neg_of_neg_of_pos h hp
      have e : (if t = 0 then sgn x && sgn y else decide (t < 0)) = true := by rw [if_neg (by omega)]; simpa using h
      rw [if_pos e, if_pos hneg]
    · have hz : vl x + vl y = 0 := by rw [← hv, h]; simp
      rw [hz]
      simp [rg_zero]
    · have hpos : 0 < vl x + vl y := by rw [← hv]; exact Int.mul_pos h hp
      have e : ¬ (if t = 0 then sgn x && sgn y else decide (t < 0)) = true := by rw [if_neg (by omega)]; simp; omega
      rw [if_neg e, if_neg (by omega)]
  · simp only [Format.write, nearest_eq, ← hab]
    have hr := rg_le (vl x + vl y).natAbs
    obtain ⟨w1, _⟩ := word_parts (if t = 0 then sgn x && sgn y else decide (t < 0)) (rg (vl x + vl y).natAbs) (by omega)
    unfold isNan
    rw [w1]
    omega

theorem read_inf {x : Nat} (h : rung x = 9218868437227405312) : double.read x = .infinity (sgn x) := by
  rw [read_eq, if_neg (by omega), if_neg (by omega), if_pos h]

theorem read_nan {x : Nat} (h : isNan x) : double.read x = .nan (sgn x) (rung x - 9218868437227405312) := by
  unfold isNan at h
  rw [read_eq, if_neg (by omega), if_neg (by omega), if_neg (by omega)]

theorem word_inf (s : Bool) : sval (double.word s 9218868437227405312) = (if s then -9218868437227405312 else 9218868437227405312) ∧ ¬ isNan (double.word s 9218868437227405312) := by
  obtain ⟨w1, w2⟩ := word_parts s 9218868437227405312 (by omega)
  constructor
  · rw [sval, w1, w2]; cases s <;> rfl
  · unfold isNan; rw [w1]; omega

theorem sval_range {x : Nat} (h : ¬ isNan x) : -9218868437227405312 ≤ sval x ∧ sval x ≤ 9218868437227405312 := by
  unfold isNan at h
  unfold sval
  split <;> omega

/-- What a sum comes to, an operand being infinite. -/
theorem add_inf_left {x y s : Nat} (hx : rung x = 9218868437227405312) (h : double.add x y = some s) : sval s = sval x ∧ ¬ isNan s := by
  have hw := word_inf (sgn x)
  have hv : sval x = if sgn x then -9218868437227405312 else 9218868437227405312 := by unfold sval; rw [hx]; rfl
  unfold Format.add at h
  rw [read_inf hx] at h
  cases hy : double.read y with
  | number t n j =>
    rw [hy] at h
    simp only [Datum.sum, Option.map_some, Option.some.injEq, Format.write, infRung_val] at h
    rw [← h, hv]; exact hw
  | infinity t =>
    rw [hy] at h
    simp only [Datum.sum] at h
    split at h
    · simp only [Option.map_some, Option.some.injEq, Format.write, infRung_val] at h
      rw [← h, hv]; exact hw
    · simp at h
  | nan t n =>
    rw [hy] at h
    simp [Datum.sum] at h

theorem add_inf_right {x y s : Nat} (hx : rung x < 9218868437227405312) (hy : rung y = 9218868437227405312) (h : double.add x y = some s) : sval s = sval y ∧ ¬ isNan s := by
  have hw := word_inf (sgn y)
  have hv : sval y = if sgn y then -9218868437227405312 else 9218868437227405312 := by unfold sval; rw [hy]; rfl
  obtain ⟨m, a, e1, _⟩ := read_fin hx
  unfold Format.add at h
  rw [read_inf hy, e1] at h
  simp only [Datum.sum, Option.map_some, Option.some.injEq, Format.write, infRung_val] at h
  rw [← h, hv]; exact hw

theorem add_nan_left {x : Nat} (y : Nat) (hx : isNan x) : double.add x y = none := by
  unfold Format.add
  rw [read_nan hx]; rfl

theorem add_nan_right (x : Nat) {y : Nat} (hy : isNan y) : double.add x y = none := by
  unfold Format.add
  rw [read_nan hy]
  cases double.read x <;> rfl

/-- A sum that is a word is a number. -/
theorem add_num {x y s : Nat} (h : double.add x y = some s) : ¬ isNan s := by
  by_cases hx : isNan x
  · rw [add_nan_left y hx] at h; cases h
  by_cases hy : isNan y
  · rw [add_nan_right x hy] at h; cases h
  unfold isNan at hx hy
  by_cases h1 : rung x = 9218868437227405312
  · exact (add_inf_left h1 h).2
  by_cases h2 : rung y = 9218868437227405312
  · exact (add_inf_right (by omega) h2 h).2
  obtain ⟨s', e, _, hn⟩ := add_fin (x := x) (y := y) (by omega) (by omega)
  rw [e] at h
  injection h with h
  rw [← h]; exact hn

/-- Sums grow with what is summed. -/
theorem add_mono {t u d s1 s2 : Nat} (htu : sval t ≤ sval u) (h1 : double.add t d = some s1) (h2 : double.add u d = some s2) : sval s1 ≤ sval s2 := by
  have r1 := sval_range (add_num h1)
  have r2 := sval_range (add_num h2)
  have nt : ¬ isNan t := fun h => by rw [add_nan_left d h] at h1; cases h1
  have nu : ¬ isNan u := fun h => by rw [add_nan_left d h] at h2; cases h2
  have nd : ¬ isNan d := fun h => by rw [add_nan_right t h] at h1; cases h1
  have rt := sval_range nt
  have ru := sval_range nu
  unfold isNan at nt nu nd
  have iv : ∀ x, rung x = 9218868437227405312 → sval x = -9218868437227405312 ∨ sval x = 9218868437227405312 := by
    intro x hx; unfold sval; rw [hx]; cases sgn x <;> simp
  have fv : ∀ x, rung x < 9218868437227405312 → -9218868437227405312 < sval x ∧ sval x < 9218868437227405312 := by
    intro x hx; unfold sval; split <;> omega
  by_cases ht : rung t = 9218868437227405312
  · have e1 := (add_inf_left ht h1).1
    rcases iv t ht with h | h
    · omega
    · by_cases hu : rung u = 9218868437227405312
      · have e2 := (add_inf_left hu h2).1
        omega
      · have := fv u (by omega); omega
  · by_cases hu : rung u = 9218868437227405312
    · have e2 := (add_inf_left hu h2).1
      have := fv t (by omega)
      rcases iv u hu with h | h <;> omega
    · by_cases hd : rung d = 9218868437227405312
      · have e1 := (add_inf_right (by omega) hd h1).1
        have e2 := (add_inf_right (by omega) hd h2).1
        omega
      · obtain ⟨a, ea, va, _⟩ := add_fin (x := t) (y := d) (by omega) (by omega)
        obtain ⟨b, eb, vb, _⟩ := add_fin (x := u) (y := d) (by omega) (by omega)
        rw [ea] at h1; rw [eb] at h2
        injection h1 with h1
        injection h2 with h2
        rw [← h1, ← h2, va, vb]
        have := vl_le.2 htu
        exact rs_mono (by omega)

end Go.Proofs.Ytlbjcdfognofgaa.Fl
