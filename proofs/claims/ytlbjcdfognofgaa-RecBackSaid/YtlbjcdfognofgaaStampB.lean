/- The functions of the package stamp on times, walked: which comes first, what comes later. -/
import Derived.Test.YtlbjcdfognofgaaWk
import Derived.Test.YtlbjcdfognofgaaStampA
namespace Go.Proofs.Ytlbjcdfognofgaa.StampB
open Go.RowKit Go.Proofs.YtlbjcdfognofgaaW.PrintWords Go.Proofs.YtlbjcdfognofgaaW.PrintLast Go.Proofs.YtlbjcdfognofgaaW.PrintMore Go.Proofs.Ytlbjcdfognofgaa.Be Go.Proofs.Ytlbjcdfognofgaa.Fl Go.Proofs.Ytlbjcdfognofgaa.StampA Go.Proofs.Ytlbjcdfognofgaa.Wk

/-- A time's place among all: what is no number comes behind. -/
def tkey (x : Nat) : Int := if isNan x then 9223372036854775808 else sval x

theorem tkey_nan {x : Nat} (h : isNan x) : tkey x = 9223372036854775808 := if_pos h
theorem tkey_num {x : Nat} (h : ¬ isNan x) : tkey x = sval x := if_neg h

theorem cmp88_calls (x y : Nat) (hx : ¬ isNan x) (hy : ¬ isNan y) (w : World) : Calls Try.prog 88 #[.float .f64 x, .float .f64 y] w fun e w' => e = .returned (.int .i64 (cmpI (sval x) (sval y))) ∧ w = w' := by
  have hl := ord_lt x y
  have hg := ord_gt x y
  rcases Int.lt_trichotomy (sval x) (sval y) with h | h | h
  · have e1 : cmpI (sval x) (sval y) = -1 := if_pos h
    replace hl : (FloatKind.f64.format.order x y == some .lt) = true := by rw [hl]; exact decide_eq_true ⟨hx, hy, h⟩
    rw [e1]
    clear e1 hg
    go_enter Try.func88, Try.ntmps88
    go_wp2
    go_ret
    exact ⟨rfl, rfl⟩
  · have e1 : cmpI (sval x) (sval y) = 0 := by rw [cmpI, if_neg (by omega), if_neg (by omega)]
    replace hl : (FloatKind.f64.format.order x y == some .lt) = false := by rw [hl]; exact decide_eq_false (by omega)
    replace hg : (FloatKind.f64.format.order x y == some .gt) = false := by rw [hg]; exact decide_eq_false (by omega)
    rw [e1]
    clear e1 h
    go_enter Try.func88, Try.ntmps88
    go_wp2
    go_ret
    exact ⟨rfl, rfl⟩
  · have e1 : cmpI (sval x) (sval y) = 1 := by rw [cmpI, if_neg (by omega), if_pos h]
    replace hl : (FloatKind.f64.format.order x y == some .lt) = false := by rw [hl]; exact decide_eq_false (by omega)
    replace hg : (FloatKind.f64.format.order x y == some .gt) = true := by rw [hg]; exact decide_eq_true ⟨hx, hy, h⟩
    rw [e1]
    clear e1
    go_enter Try.func88, Try.ntmps88
    go_wp2
    go_ret
    exact ⟨rfl, rfl⟩

theorem times37_calls (x y : Nat) (w : World) : Calls Try.prog 37 #[.float .f64 x, .float .f64 y] w fun e w' => e = .returned (.int .i64 (cmpI (tkey x) (tkey y))) ∧ w = w' := by
  by_cases hx : isNan x
  · have nx : nanb x = true := decide_eq_true hx
    by_cases hy : isNan y
    · have ny : nanb y = true := decide_eq_true hy
      have e1 : cmpI (tkey x) (tkey y) = 0 := by rw [tkey_nan hx, tkey_nan hy]; rfl
      rw [e1]
      clear e1
      go_enter Try.func37, Try.ntmps37
      go_wp2_with (go_at_call 83; (with_reducible refine (isNaN_calls _ _).mono ?_); rintro e w1 ⟨rfl, rfl⟩)
      go_ret
      exact ⟨rfl, rfl⟩
    · have ny : nanb y = false := decide_eq_false hy
      have hr := sval_range hy
      have e1 : cmpI (tkey x) (tkey y) = 1 := by rw [tkey_nan hx, tkey_num hy, cmpI, if_neg (by omega), if_pos (by omega)]
      have o1 : FloatKind.f64.format.order x y = none := ord_nan (.inl hx)
      rw [e1]
      clear e1 hr
      go_enter Try.func37, Try.ntmps37
      go_wp2_with (go_at_call 83; (with_reducible refine (isNaN_calls _ _).mono ?_); rintro e w1 ⟨rfl, rfl⟩)
      go_ret
      exact ⟨rfl, rfl⟩
  · have nx : nanb x = false := decide_eq_false hx
    have hrx := sval_range hx
    by_cases hy : isNan y
    · have ny : nanb y = true := decide_eq_true hy
      have e1 : cmpI (tkey x) (tkey y) = -1 := by rw [tkey_num hx, tkey_nan hy, cmpI, if_pos (by omega)]
      have o1 : FloatKind.f64.format.order x y = none := ord_nan (.inr hy)
      rw [e1]
      clear e1 hrx
      go_enter Try.func37, Try.ntmps37
      go_wp2_with (go_at_call 83; (with_reducible refine (isNaN_calls _ _).mono ?_); rintro e w1 ⟨rfl, rfl⟩)
      go_ret
      exact ⟨rfl, rfl⟩
    · have ny : nanb y = false := decide_eq_false hy
      have e1 : cmpI (tkey x) (tkey y) = cmpI (sval x) (sval y) := by rw [tkey_num hx, tkey_num hy]
      rw [e1]
      clear e1 hrx
      go_enter Try.func37, Try.ntmps37
      go_wp2_with (first | (go_at_call 83; (with_reducible refine (isNaN_calls _ _).mono ?_); rintro e w1 ⟨rfl, rfl⟩) | (go_at_call 88; (with_reducible refine (cmp88_calls x y hx hy _).mono ?_); rintro e w1 ⟨rfl, rfl⟩))
      go_ret
      exact ⟨rfl, rfl⟩

theorem times38_calls (x y : Nat) (w : World) : Calls Try.prog 38 #[.float .f64 x, .float .f64 y] w fun e w' => e = .returned (.int .i64 (cmpI (tkey x) (tkey y))) ∧ w = w' := by
  by_cases hx : isNan x
  · have nx : nanb x = true := decide_eq_true hx
    by_cases hy : isNan y
    · have ny : nanb y = true := decide_eq_true hy
      have e1 : cmpI (tkey x) (tkey y) = 0 := by rw [tkey_nan hx, tkey_nan hy]; rfl
      rw [e1]
      clear e1
      go_enter Try.func38, Try.ntmps38
      go_wp2_with (go_at_call 84; (with_reducible refine (number_calls _ _).mono ?_); rintro e w1 ⟨rfl, rfl⟩)
      go_ret
      exact ⟨rfl, rfl⟩
    · have ny : nanb y = false := decide_eq_false hy
      have hr := sval_range hy
      have e1 : cmpI (tkey x) (tkey y) = 1 := by rw [tkey_nan hx, tkey_num hy, cmpI, if_neg (by omega), if_pos (by omega)]
      have o1 : FloatKind.f64.format.order x y = none := ord_nan (.inl hx)
      rw [e1]
      clear e1 hr
      go_enter Try.func38, Try.ntmps38
      go_wp2_with (go_at_call 84; (with_reducible refine (number_calls _ _).mono ?_); rintro e w1 ⟨rfl, rfl⟩)
      go_ret
      exact ⟨rfl, rfl⟩
  · have nx : nanb x = false := decide_eq_false hx
    have hrx := sval_range hx
    by_cases hy : isNan y
    · have ny : nanb y = true := decide_eq_true hy
      have e1 : cmpI (tkey x) (tkey y) = -1 := by rw [tkey_num hx, tkey_nan hy, cmpI, if_pos (by omega)]
      have o1 : FloatKind.f64.format.order x y = none := ord_nan (.inr hy)
      rw [e1]
      clear e1 hrx
      go_enter Try.func38, Try.ntmps38
      go_wp2_with (go_at_call 84; (with_reducible refine (number_calls _ _).mono ?_); rintro e w1 ⟨rfl, rfl⟩)
      go_ret
      exact ⟨rfl, rfl⟩
    · have ny : nanb y = false := decide_eq_false hy
      have hl := ord_lt x y
      have he := ord_eq x y
      rcases Int.lt_trichotomy (sval x) (sval y) with h | h | h
      · have e1 : cmpI (tkey x) (tkey y) = -1 := by
          rw [tkey_num hx, tkey_num hy]
          exact if_pos h
        replace hl : (FloatKind.f64.format.order x y == some .lt) = true := by rw [hl]; exact decide_eq_true ⟨hx, hy, h⟩
        replace he : (FloatKind.f64.format.order x y == some .eq) = false := by rw [he]; exact decide_eq_false (by omega)
        rw [e1]
        clear e1 hrx h
        go_enter Try.func38, Try.ntmps38
        go_wp2_with (go_at_call 84; (with_reducible refine (number_calls _ _).mono ?_); rintro e w1 ⟨rfl, rfl⟩)
        go_ret
        exact ⟨rfl, rfl⟩
      · have e1 : cmpI (tkey x) (tkey y) = 0 := by
          rw [tkey_num hx, tkey_num hy]
          exact by rw [cmpI, if_neg (by omega), if_neg (by omega)]
        replace hl : (FloatKind.f64.format.order x y == some .lt) = false := by rw [hl]; exact decide_eq_false (by omega)
        replace he : (FloatKind.f64.format.order x y == some .eq) = true := by rw [he]; exact decide_eq_true ⟨hx, hy, h⟩
        rw [e1]
        clear e1 hrx h
        go_enter Try.func38, Try.ntmps38
        go_wp2_with (go_at_call 84; (with_reducible refine (number_calls _ _).mono ?_); rintro e w1 ⟨rfl, rfl⟩)
        go_ret
        exact ⟨rfl, rfl⟩
      · have e1 : cmpI (tkey x) (tkey y) = 1 := by
          rw [tkey_num hx, tkey_num hy]
          exact by rw [cmpI, if_neg (by omega), if_pos h]
        replace hl : (FloatKind.f64.format.order x y == some .lt) = false := by rw [hl]; exact decide_eq_false (by omega)
        replace he : (FloatKind.f64.format.order x y == some .eq) = false := by rw [he]; exact decide_eq_false (by omega)
        rw [e1]
        clear e1 hrx h
        go_enter Try.func38, Try.ntmps38
        go_wp2_with (go_at_call 84; (with_reducible refine (number_calls _ _).mono ?_); rintro e w1 ⟨rfl, rfl⟩)
        go_ret
        exact ⟨rfl, rfl⟩

/-- What comes so much later; what is wrong. -/
def later (t d : Nat) : Nat × Int :=
  if isNan t ∨ isNan d ∨ sval d ≤ 0 then (0, 7)
  else match Ieee.double.add t d with
    | none => (0, 7)
    | some s => if sval t < sval s then (norm s, 0) else (0, 7)

theorem run_add_some {P : Program} {x y s : Nat} (t : TypeId) (h : Ieee.double.add x y = some s) (w : World) : (binOp .add t (.float .f64 x) (.float .f64 y)).run P w = .ok (.float .f64 s) w :=
  run_float_arith w .add t .f64 x y s h

theorem run_add_none {P : Program} {x y : Nat} (t : TypeId) (h : Ieee.double.add x y = none) (w : World) : ∃ b, isNan b ∧ (binOp .add t (.float .f64 x) (.float .f64 y)).run P w = .ok (.float .f64 b) w.drew := by
  refine ⟨Question.cut (.nanBits .f64 x y) (w.tape w.drawn (.nanBits .f64 x y)), ?_, ?_⟩
  · unfold isNan rung
    simp only [Question.cut, Nat.reducePow, Nat.reduceSub]
    generalize w.tape w.drawn (.nanBits .f64 x y) = n
    generalize n / 2 = m
    rcases Nat.mod_two_eq_zero_or_one n with h2 | h2 <;> rw [h2] <;> omega
  · simp [binOp, Op.floatArith, fmt64, h, Question.forced]

set_option maxHeartbeats 1000000 in
theorem later33_calls (t d : Nat) (w : World) : Calls Try.prog 33 #[.float .f64 t, .float .f64 d] w fun e w' => e = .returned (.tuple #[.float .f64 (later t d).1, .int .i64 (later t d).2]) ∧ Below w.heap.size w w' := by
  by_cases ht : isNan t
  · have nt : nanb t = true := decide_eq_true ht
    have e1 : later t d = (0, 7) := if_pos (.inl ht)
    rw [e1]
    clear e1
    have HB := Aside0.mk (Below.refl w.heap.size w)
    go_enter Try.func33, Try.ntmps33
    go_wp2_with (go_at_call 83; (with_reducible refine (isNaN_calls _ _).mono ?_); rintro e w1 ⟨rfl, rfl⟩)
    go_ret2
    exact ⟨rfl, bel⟩
  have nt : nanb t = false := decide_eq_false ht
  by_cases hd : isNan d
  · have nd : nanb d = true := decide_eq_true hd
    have e1 : later t d = (0, 7) := if_pos (.inr (.inl hd))
    rw [e1]
    clear e1
    have HB := Aside0.mk (Below.refl w.heap.size w)
    go_enter Try.func33, Try.ntmps33
    go_wp2_with (go_at_call 83; (with_reducible refine (isNaN_calls _ _).mono ?_); rintro e w1 ⟨rfl, rfl⟩)
    go_ret2
    exact ⟨rfl, bel⟩
  have nd : nanb d = false := decide_eq_false hd
  have hl := ord_lt d 0
  have he := ord_eq d 0
  rw [sval_zero] at hl he
  by_cases h0 : sval d ≤ 0
  · have e1 : later t d = (0, 7) := if_pos (.inr (.inr h0))
    rcases Int.lt_or_eq_of_le h0 with h | h
    · replace hl : (FloatKind.f64.format.order d 0 == some .lt) = true := by rw [hl]; exact decide_eq_true ⟨hd, not_nan_zero, h⟩
      clear he h0 h
      rw [e1]
      clear e1
      have HB := Aside0.mk (Below.refl w.heap.size w)
      go_enter Try.func33, Try.ntmps33
      go_wp2_with (go_at_call 83; (with_reducible refine (isNaN_calls _ _).mono ?_); rintro e w1 ⟨rfl, rfl⟩)
      go_ret2
      exact ⟨rfl, bel⟩
    · replace hl : (FloatKind.f64.format.order d 0 == some .lt) = false := by rw [hl]; exact decide_eq_false (by omega)
      replace he : (FloatKind.f64.format.order d 0 == some .eq) = true := by rw [he]; exact decide_eq_true ⟨hd, not_nan_zero, h⟩
      clear h0 h
      rw [e1]
      clear e1
      have HB := Aside0.mk (Below.refl w.heap.size w)
      go_enter Try.func33, Try.ntmps33
      go_wp2_with (go_at_call 83; (with_reducible refine (isNaN_calls _ _).mono ?_); rintro e w1 ⟨rfl, rfl⟩)
      go_ret2
      exact ⟨rfl, bel⟩
  replace hl : (FloatKind.f64.format.order d 0 == some .lt) = false := by rw [hl]; exact decide_eq_false (by omega)
  replace he : (FloatKind.f64.format.order d 0 == some .eq) = false := by rw [he]; exact decide_eq_false (by omega)
  have hno : ¬ (isNan t ∨ isNan d ∨ sval d ≤ 0) := by
    rintro (h | h | h)
    · exact ht h
    · exact hd h
    · exact h0 h
  cases ha : Ieee.double.add t d with
  | none =>
    have e1 : later t d = (0, 7) := by rw [later, if_neg hno, ha]
    obtain ⟨b, hb, hrun⟩ := run_add_none (P := Try.prog) 36 ha w
    have nb : nanb b = true := decide_eq_true hb
    have og : FloatKind.f64.format.order b t = none := ord_nan (.inl hb)
    clear hno ha h0
    rw [e1]
    clear e1
    have HB := Aside0.mk (Below.refl w.heap.size w)
    go_enter Try.func33, Try.ntmps33
    go_wp2_with (go_at_call 83; (with_reducible refine (isNaN_calls _ _).mono ?_); rintro e w1 ⟨rfl, rfl⟩)
    go_ret2
    exact ⟨rfl, bel⟩
  | some s =>
    have hs := add_num ha
    have ns : nanb s = false := decide_eq_false hs
    have hrun := run_add_some (P := Try.prog) 36 ha w
    have hg := ord_gt s t
    have hl2 := ord_lt s t
    have he2 := ord_eq s t
    by_cases hlt : sval t < sval s
    · have e1 : later t d = (norm s, 0) := by rw [later, if_neg hno, ha]; simp only [if_pos hlt]
      have e3 : normE s = 0 := if_neg hs
      replace hg : (FloatKind.f64.format.order s t == some .gt) = true := by rw [hg]; exact decide_eq_true ⟨hs, ht, hlt⟩
      replace hl2 : (FloatKind.f64.format.order s t == some .lt) = false := by rw [hl2]; exact decide_eq_false (by omega)
      replace he2 : (FloatKind.f64.format.order s t == some .eq) = false := by rw [he2]; exact decide_eq_false (by omega)
      clear hno ha h0 hlt
      rw [e1]
      clear e1
      have HB := Aside0.mk (Below.refl w.heap.size w)
      go_enter Try.func33, Try.ntmps33
      go_wp2_with (first | (go_at_call 83; (with_reducible refine (isNaN_calls _ _).mono ?_); rintro e w1 ⟨rfl, rfl⟩) | (go_at_call 31; (with_reducible refine (norm31_calls s _).mono ?_); rintro e w1 ⟨rfl, rfl⟩))
      go_ret2
      exact ⟨rfl, bel⟩
    · have e1 : later t d = (0, 7) := by rw [later, if_neg hno, ha]; simp only [if_neg hlt]
      replace hg : (FloatKind.f64.format.order s t == some .gt) = false := by rw [hg]; exact decide_eq_false (by omega)
      rcases Int.lt_or_eq_of_le (show sval s ≤ sval t by omega) with h | h
      · replace hl2 : (FloatKind.f64.format.order s t == some .lt) = true := by rw [hl2]; exact decide_eq_true ⟨hs, ht, h⟩
        clear hno ha h0 hlt h he2
        rw [e1]
        clear e1
        have HB := Aside0.mk (Below.refl w.heap.size w)
        go_enter Try.func33, Try.ntmps33
        go_wp2_with (first | (go_at_call 83; (with_reducible refine (isNaN_calls _ _).mono ?_); rintro e w1 ⟨rfl, rfl⟩) | (go_at_call 31; (with_reducible refine (norm31_calls s _).mono ?_); rintro e w1 ⟨rfl, rfl⟩))
        go_ret2
        exact ⟨rfl, bel⟩
      · replace hl2 : (FloatKind.f64.format.order s t == some .lt) = false := by rw [hl2]; exact decide_eq_false (by omega)
        replace he2 : (FloatKind.f64.format.order s t == some .eq) = true := by rw [he2]; exact decide_eq_true ⟨hs, ht, h⟩
        clear hno ha h0 hlt h
        rw [e1]
        clear e1
        have HB := Aside0.mk (Below.refl w.heap.size w)
        go_enter Try.func33, Try.ntmps33
        go_wp2_with (first | (go_at_call 83; (with_reducible refine (isNaN_calls _ _).mono ?_); rintro e w1 ⟨rfl, rfl⟩) | (go_at_call 31; (with_reducible refine (norm31_calls s _).mono ?_); rintro e w1 ⟨rfl, rfl⟩))
        go_ret2
        exact ⟨rfl, bel⟩

set_option maxHeartbeats 1000000 in
theorem later34_calls (t d : Nat) (w : World) : Calls Try.prog 34 #[.float .f64 t, .float .f64 d] w fun e w' => e = .returned (.tuple #[.float .f64 (later t d).1, .int .i64 (later t d).2]) ∧ Below w.heap.size w w' := by
  by_cases ht : isNan t
  · have nt : nanb t = true := decide_eq_true ht
    have e1 : later t d = (0, 7) := if_pos (.inl ht)
    rw [e1]
    clear e1
    have HB := Aside0.mk (Below.refl w.heap.size w)
    go_enter Try.func34, Try.ntmps34
    go_wp2_with (go_at_call 84; (with_reducible refine (number_calls _ _).mono ?_); rintro e w1 ⟨rfl, rfl⟩)
    go_ret2
    exact ⟨rfl, bel⟩
  have nt : nanb t = false := decide_eq_false ht
  by_cases hd : isNan d
  · have nd : nanb d = true := decide_eq_true hd
    have e1 : later t d = (0, 7) := if_pos (.inr (.inl hd))
    rw [e1]
    clear e1
    have HB := Aside0.mk (Below.refl w.heap.size w)
    go_enter Try.func34, Try.ntmps34
    go_wp2_with (go_at_call 84; (with_reducible refine (number_calls _ _).mono ?_); rintro e w1 ⟨rfl, rfl⟩)
    go_ret2
    exact ⟨rfl, bel⟩
  have nd : nanb d = false := decide_eq_false hd
  have hl := ord_lt d 0
  have he := ord_eq d 0
  rw [sval_zero] at hl he
  by_cases h0 : sval d ≤ 0
  · have e1 : later t d = (0, 7) := if_pos (.inr (.inr h0))
    rcases Int.lt_or_eq_of_le h0 with h | h
    · replace hl : (FloatKind.f64.format.order d 0 == some .lt) = true := by rw [hl]; exact decide_eq_true ⟨hd, not_nan_zero, h⟩
      clear he h0 h
      rw [e1]
      clear e1
      have HB := Aside0.mk (Below.refl w.heap.size w)
      go_enter Try.func34, Try.ntmps34
      go_wp2_with (go_at_call 84; (with_reducible refine (number_calls _ _).mono ?_); rintro e w1 ⟨rfl, rfl⟩)
      go_ret2
      exact ⟨rfl, bel⟩
    · replace hl : (FloatKind.f64.format.order d 0 == some .lt) = false := by rw [hl]; exact decide_eq_false (by omega)
      replace he : (FloatKind.f64.format.order d 0 == some .eq) = true := by rw [he]; exact decide_eq_true ⟨hd, not_nan_zero, h⟩
      clear h0 h
      rw [e1]
      clear e1
      have HB := Aside0.mk (Below.refl w.heap.size w)
      go_enter Try.func34, Try.ntmps34
      go_wp2_with (go_at_call 84; (with_reducible refine (number_calls _ _).mono ?_); rintro e w1 ⟨rfl, rfl⟩)
      go_ret2
      exact ⟨rfl, bel⟩
  replace hl : (FloatKind.f64.format.order d 0 == some .lt) = false := by rw [hl]; exact decide_eq_false (by omega)
  replace he : (FloatKind.f64.format.order d 0 == some .eq) = false := by rw [he]; exact decide_eq_false (by omega)
  have hno : ¬ (isNan t ∨ isNan d ∨ sval d ≤ 0) := by
    rintro (h | h | h)
    · exact ht h
    · exact hd h
    · exact h0 h
  cases ha : Ieee.double.add t d with
  | none =>
    have e1 : later t d = (0, 7) := by rw [later, if_neg hno, ha]
    obtain ⟨b, hb, hrun⟩ := run_add_none (P := Try.prog) 36 ha w
    have nb : nanb b = true := decide_eq_true hb
    have og : FloatKind.f64.format.order b t = none := ord_nan (.inl hb)
    clear hno ha h0
    rw [e1]
    clear e1
    have HB := Aside0.mk (Below.refl w.heap.size w)
    go_enter Try.func34, Try.ntmps34
    go_wp2_with (go_at_call 84; (with_reducible refine (number_calls _ _).mono ?_); rintro e w1 ⟨rfl, rfl⟩)
    go_ret2
    exact ⟨rfl, bel⟩
  | some s =>
    have hs := add_num ha
    have ns : nanb s = false := decide_eq_false hs
    have hrun := run_add_some (P := Try.prog) 36 ha w
    have hg := ord_gt s t
    have hl2 := ord_lt s t
    have he2 := ord_eq s t
    by_cases hlt : sval t < sval s
    · have e1 : later t d = (norm s, 0) := by rw [later, if_neg hno, ha]; simp only [if_pos hlt]
      have e3 : normE s = 0 := if_neg hs
      replace hg : (FloatKind.f64.format.order s t == some .gt) = true := by rw [hg]; exact decide_eq_true ⟨hs, ht, hlt⟩
      replace hl2 : (FloatKind.f64.format.order s t == some .lt) = false := by rw [hl2]; exact decide_eq_false (by omega)
      replace he2 : (FloatKind.f64.format.order s t == some .eq) = false := by rw [he2]; exact decide_eq_false (by omega)
      clear hno ha h0 hlt
      rw [e1]
      clear e1
      have HB := Aside0.mk (Below.refl w.heap.size w)
      go_enter Try.func34, Try.ntmps34
      go_wp2_with (first | (go_at_call 84; (with_reducible refine (number_calls _ _).mono ?_); rintro e w1 ⟨rfl, rfl⟩) | (go_at_call 32; (with_reducible refine (norm32_calls s _).mono ?_); rintro e w1 ⟨rfl, rfl⟩))
      go_ret2
      exact ⟨rfl, bel⟩
    · have e1 : later t d = (0, 7) := by rw [later, if_neg hno, ha]; simp only [if_neg hlt]
      replace hg : (FloatKind.f64.format.order s t == some .gt) = false := by rw [hg]; exact decide_eq_false (by omega)
      rcases Int.lt_or_eq_of_le (show sval s ≤ sval t by omega) with h | h
      · replace hl2 : (FloatKind.f64.format.order s t == some .lt) = true := by rw [hl2]; exact decide_eq_true ⟨hs, ht, h⟩
        clear hno ha h0 hlt h he2
        rw [e1]
        clear e1
        have HB := Aside0.mk (Below.refl w.heap.size w)
        go_enter Try.func34, Try.ntmps34
        go_wp2_with (first | (go_at_call 84; (with_reducible refine (number_calls _ _).mono ?_); rintro e w1 ⟨rfl, rfl⟩) | (go_at_call 32; (with_reducible refine (norm32_calls s _).mono ?_); rintro e w1 ⟨rfl, rfl⟩))
        go_ret2
        exact ⟨rfl, bel⟩
      · replace hl2 : (FloatKind.f64.format.order s t == some .lt) = false := by rw [hl2]; exact decide_eq_false (by omega)
        replace he2 : (FloatKind.f64.format.order s t == some .eq) = true := by rw [he2]; exact decide_eq_true ⟨hs, ht, h⟩
        clear hno ha h0 hlt h
        rw [e1]
        clear e1
        have HB := Aside0.mk (Below.refl w.heap.size w)
        go_enter Try.func34, Try.ntmps34
        go_wp2_with (first | (go_at_call 84; (with_reducible refine (number_calls _ _).mono ?_); rintro e w1 ⟨rfl, rfl⟩) | (go_at_call 32; (with_reducible refine (norm32_calls s _).mono ?_); rintro e w1 ⟨rfl, rfl⟩))
        go_ret2
        exact ⟨rfl, bel⟩

end Go.Proofs.Ytlbjcdfognofgaa.StampB
