/- The small functions of the package stamp and of math that it calls, walked: what each comes to. -/
import Derived.Test.YtlbjcdfognofgaaProg
import Derived.Test.YtlbjcdfognofgaaFl
import Derived.Test.YtlbjcdfognofgaaBe
import Derived.WalkLawsBesides
namespace Go.Proofs.Ytlbjcdfognofgaa.StampA
open Go.RowKit Go.Proofs.YtlbjcdfognofgaaW.PrintWords Go.Proofs.Ytlbjcdfognofgaa.Be Go.Proofs.Ytlbjcdfognofgaa.Fl

theorem fmt64 : FloatKind.f64.format = Ieee.double := rfl

/-- Is it no number? -/
def nanb (x : Nat) : Bool := decide (isNan x)

theorem ord_nan {x y : Nat} (h : isNan x ∨ isNan y) : FloatKind.f64.format.order x y = none := by
  rcases h with h | h
  · exact order_nan_left y h
  · exact order_nan_right x h

theorem self_neq (x : Nat) : (FloatKind.f64.format.order x x != some .eq) = nanb x := by
  unfold nanb
  by_cases h : isNan x
  · rw [ord_nan (.inl h), decide_eq_true h]; rfl
  · rw [fmt64, order_num h h, cmp_eq rfl, decide_eq_false h]; rfl

theorem self_eq (x : Nat) : (FloatKind.f64.format.order x x == some .eq) = !nanb x := by
  rw [← self_neq]; simp [bne]

theorem isNaN_calls (x : Nat) (w : World) : Calls Try.prog 83 #[.float .f64 x] w fun e w' => e = .returned (.bool (nanb x)) ∧ w = w' := by
  have h := self_neq x
  go_enter Try.func83, Try.ntmps83
  go_wp2
  go_ret
  exact ⟨rfl, rfl⟩

theorem number_calls (x : Nat) (w : World) : Calls Try.prog 84 #[.float .f64 x] w fun e w' => e = .returned (.bool (!nanb x)) ∧ w = w' := by
  have h := self_eq x
  go_enter Try.func84, Try.ntmps84
  go_wp2
  go_ret
  exact ⟨rfl, rfl⟩

theorem order_lt {x y : Nat} : (FloatKind.f64.format.order x y = some .lt) ↔ (¬ isNan x ∧ ¬ isNan y ∧ sval x < sval y) := by
  by_cases hx : isNan x
  · rw [ord_nan (.inl hx)]; simp [hx]
  by_cases hy : isNan y
  · rw [ord_nan (.inr hy)]; simp [hy]
  rw [fmt64, order_num hx hy, Option.some.injEq]
  rcases Int.lt_trichotomy (sval x) (sval y) with h | h | h
  · rw [cmp_lt h]; simp [hx, hy, h]
  · rw [cmp_eq h]; simp [h]
  · rw [cmp_gt h]; simp; omega

theorem order_gt {x y : Nat} : (FloatKind.f64.format.order x y = some .gt) ↔ (¬ isNan x ∧ ¬ isNan y ∧ sval y < sval x) := by
  by_cases hx : isNan x
  · rw [ord_nan (.inl hx)]; simp [hx]
  by_cases hy : isNan y
  · rw [ord_nan (.inr hy)]; simp [hy]
  rw [fmt64, order_num hx hy, Option.some.injEq]
  rcases Int.lt_trichotomy (sval x) (sval y) with h | h | h
  · rw [cmp_lt h]; simp; omega
  · rw [cmp_eq h]; simp [h]
  · rw [cmp_gt h]; simp [hx, hy, h]

theorem order_eq' {x y : Nat} : (FloatKind.f64.format.order x y = some .eq) ↔ (¬ isNan x ∧ ¬ isNan y ∧ sval x = sval y) := by
  by_cases hx : isNan x
  · rw [ord_nan (.inl hx)]; simp [hx]
  by_cases hy : isNan y
  · rw [ord_nan (.inr hy)]; simp [hy]
  rw [fmt64, order_num hx hy, Option.some.injEq]
  rcases Int.lt_trichotomy (sval x) (sval y) with h | h | h
  · rw [cmp_lt h]; simp; omega
  · rw [cmp_eq h]; simp [hx, hy, h]
  · rw [cmp_gt h]; simp; omega

theorem ord_lt (x y : Nat) : (FloatKind.f64.format.order x y == some .lt) = decide (¬ isNan x ∧ ¬ isNan y ∧ sval x < sval y) := by
  rw [Bool.eq_iff_iff, beq_iff_eq, decide_eq_true_iff]; exact order_lt
theorem ord_gt (x y : Nat) : (FloatKind.f64.format.order x y == some .gt) = decide (¬ isNan x ∧ ¬ isNan y ∧ sval y < sval x) := by
  rw [Bool.eq_iff_iff, beq_iff_eq, decide_eq_true_iff]; exact order_gt
theorem ord_eq (x y : Nat) : (FloatKind.f64.format.order x y == some .eq) = decide (¬ isNan x ∧ ¬ isNan y ∧ sval x = sval y) := by
  rw [Bool.eq_iff_iff, beq_iff_eq, decide_eq_true_iff]; exact order_eq'

theorem sval_zero : sval 0 = 0 := by decide
theorem not_nan_zero : ¬ isNan 0 := by decide

/-- A time as it is kept; what is wrong with it. -/
def norm (x : Nat) : Nat := if isNan x then 0 else if sval x = 0 then 0 else x
def normE (x : Nat) : Int := if isNan x then 7 else 0

/-- -1, 0, 1. -/
def cmpI (a b : Int) : Int := if a < b then -1 else if b < a then 1 else 0

theorem norm31_calls (x : Nat) (w : World) : Calls Try.prog 31 #[.float .f64 x] w fun e w' => e = .returned (.tuple #[.float .f64 (norm x), .int .i64 (normE x)]) ∧ w = w' := by
  by_cases hn : isNan x
  · have h1 : nanb x = true := decide_eq_true hn
    have e1 : norm x = 0 := if_pos hn
    have e2 : normE x = 7 := if_pos hn
    rw [e1, e2]
    go_enter Try.func31, Try.ntmps31
    go_wp2_with (go_at_call 83; (with_reducible refine (isNaN_calls x _).mono ?_); rintro e w1 ⟨rfl, rfl⟩)
    go_ret2
    exact ⟨rfl, rfl⟩
  · have h1 : nanb x = false := decide_eq_false hn
    by_cases h0 : sval x = 0
    · have e1 : norm x = 0 := by rw [norm, if_neg hn, if_pos h0]
      have e2 : normE x = 0 := if_neg hn
      have h2 : (FloatKind.f64.format.order x 0 == some .eq) = true := by rw [ord_eq]; exact decide_eq_true ⟨hn, not_nan_zero, by rw [h0, sval_zero]⟩
      rw [e1, e2]
      go_enter Try.func31, Try.ntmps31
      go_wp2_with (go_at_call 83; (with_reducible refine (isNaN_calls x _).mono ?_); rintro e w1 ⟨rfl, rfl⟩)
      go_ret2
      exact ⟨rfl, rfl⟩
    · have e1 : norm x = x := by rw [norm, if_neg hn, if_neg h0]
      have e2 : normE x = 0 := if_neg hn
      have h2 : (FloatKind.f64.format.order x 0 == some .eq) = false := by rw [ord_eq]; exact decide_eq_false (fun h => h0 (by rw [h.2.2, sval_zero]))
      rw [e1, e2]
      clear e1
      go_enter Try.func31, Try.ntmps31
      go_wp2_with (go_at_call 83; (with_reducible refine (isNaN_calls x _).mono ?_); rintro e w1 ⟨rfl, rfl⟩)
      go_ret2
      exact ⟨rfl, rfl⟩

theorem norm32_calls (x : Nat) (w : World) : Calls Try.prog 32 #[.float .f64 x] w fun e w' => e = .returned (.tuple #[.float .f64 (norm x), .int .i64 (normE x)]) ∧ w = w' := by
  by_cases hn : isNan x
  · have h1 : nanb x = true := decide_eq_true hn
    have e1 : norm x = 0 := if_pos hn
    have e2 : normE x = 7 := if_pos hn
    rw [e1, e2]
    go_enter Try.func32, Try.ntmps32
    go_wp2_with (go_at_call 84; (with_reducible refine (number_calls x _).mono ?_); rintro e w1 ⟨rfl, rfl⟩)
    go_ret2
    exact ⟨rfl, rfl⟩
  · have h1 : nanb x = false := decide_eq_false hn
    by_cases h0 : sval x = 0
    · have e1 : norm x = 0 := by rw [norm, if_neg hn, if_pos h0]
      have e2 : normE x = 0 := if_neg hn
      have h2 : (FloatKind.f64.format.order x 0 == some .eq) = true := by rw [ord_eq]; exact decide_eq_true ⟨hn, not_nan_zero, by rw [h0, sval_zero]⟩
      rw [e1, e2]
      go_enter Try.func32, Try.ntmps32
      go_wp2_with (go_at_call 84; (with_reducible refine (number_calls x _).mono ?_); rintro e w1 ⟨rfl, rfl⟩)
      go_ret2
      exact ⟨rfl, rfl⟩
    · have e1 : norm x = x := by rw [norm, if_neg hn, if_neg h0]
      have e2 : normE x = 0 := if_neg hn
      have h2 : (FloatKind.f64.format.order x 0 == some .eq) = false := by rw [ord_eq]; exact decide_eq_false (fun h => h0 (by rw [h.2.2, sval_zero]))
      rw [e1, e2]
      clear e1
      go_enter Try.func32, Try.ntmps32
      go_wp2_with (go_at_call 84; (with_reducible refine (number_calls x _).mono ?_); rintro e w1 ⟨rfl, rfl⟩)
      go_ret2
      exact ⟨rfl, rfl⟩

theorem cmp107_calls (a b : Int) (w : World) : Calls Try.prog 107 #[.int .i64 a, .int .i64 b] w fun e w' => e = .returned (.int .i64 (cmpI a b)) ∧ w = w' := by
  by_cases h : a < b
  · have e1 : cmpI a b = -1 := if_pos h
    rw [e1]
    go_enter Try.func107, Try.ntmps107
    go_wp2
    go_ret
    exact ⟨rfl, rfl⟩
  · by_cases h2 : b < a
    · have e1 : cmpI a b = 1 := by rw [cmpI, if_neg h, if_pos h2]
      rw [e1]
      go_enter Try.func107, Try.ntmps107
      go_wp2
      go_ret
      exact ⟨rfl, rfl⟩
    · have e1 : cmpI a b = 0 := by rw [cmpI, if_neg h, if_neg h2]
      rw [e1]
      go_enter Try.func107, Try.ntmps107
      go_wp2
      go_ret
      exact ⟨rfl, rfl⟩

end Go.Proofs.Ytlbjcdfognofgaa.StampA
