/- The reference's Compare, and what must come at any rate (awake), walked. -/
import Derived.Test.YtlbjcdfognofgaaWk
import Derived.Test.YtlbjcdfognofgaaStampC
namespace Go.Proofs.Ytlbjcdfognofgaa.StampD
open Go.RowKit Go.Proofs.YtlbjcdfognofgaaW.PrintWords Go.Proofs.YtlbjcdfognofgaaW.PrintLast Go.Proofs.YtlbjcdfognofgaaW.PrintMore Go.Proofs.Ytlbjcdfognofgaa.Be Go.Proofs.Ytlbjcdfognofgaa.Fl Go.Proofs.Ytlbjcdfognofgaa.StampA Go.Proofs.Ytlbjcdfognofgaa.StampB Go.Proofs.Ytlbjcdfognofgaa.StampC Go.Proofs.Ytlbjcdfognofgaa.Wk

theorem cmpI_cases (a b : Int) : (a < b ∧ cmpI a b = -1) ∨ (a = b ∧ cmpI a b = 0) ∨ (b < a ∧ cmpI a b = 1) := by
  unfold cmpI
  rcases Int.lt_trichotomy a b with h | h | h
  · exact .inl ⟨h, if_pos h⟩
  · exact .inr (.inl ⟨h, by rw [if_neg (by omega), if_neg (by omega)]⟩)
  · exact .inr (.inr ⟨h, by rw [if_neg (by omega), if_pos h]⟩)

set_option maxRecDepth 100000 in
set_option maxHeartbeats 2000000 in
theorem compare40_calls (t t2 : Nat) (s n s2 n2 : Int) (w : World) : Calls Try.prog 40 #[.agg #[.float .f64 t, .int .i64 s, .int .i64 n], .agg #[.float .f64 t2, .int .i64 s2, .int .i64 n2]] w fun e w' => e = .returned (.int .i64 (cmpS t t2 s n s2 n2)) ∧ Below w.heap.size w w' := by
  have hu2 := Try.underlying42
  have HB := Aside0.mk (Below.refl w.heap.size w)
  by_cases h1 : cmpI (tkey t) (tkey t2) = 0
  · have q1 : (cmpI (tkey t) (tkey t2) != 0) = false := by rw [h1]; rfl
    rcases cmpI_cases s s2 with ⟨h, c⟩ | ⟨h, c⟩ | ⟨h, c⟩
    · have e1 : cmpS t t2 s n s2 n2 = -1 := by rw [cmpS, if_neg (by simp [h1]), if_pos (by omega), c]
      clear h1 c
      rw [e1]
      clear e1
      go_enter Try.func40, Try.ntmps40
      go_wp2_with (go_at_call 38; (with_reducible refine (times38_calls _ _ _).mono ?_); rintro e w1 ⟨rfl, rfl⟩)
      go_ret
      exact ⟨rfl, bel⟩
    · subst h
      rcases cmpI_cases n n2 with ⟨h3, c3⟩ | ⟨h3, c3⟩ | ⟨h3, c3⟩
      · have e1 : cmpS t t2 s n s n2 = -1 := by rw [cmpS, if_neg (by simp [h1]), if_neg (by omega), c3]
        clear h1 c c3
        rw [e1]
        clear e1
        go_enter Try.func40, Try.ntmps40
        go_wp2_with (go_at_call 38; (with_reducible refine (times38_calls _ _ _).mono ?_); rintro e w1 ⟨rfl, rfl⟩)
        go_ret
        exact ⟨rfl, bel⟩
      · subst h3
        have e1 : cmpS t t2 s n s n = 0 := by rw [cmpS, if_neg (by simp [h1]), if_neg (by omega), c3]
        clear h1 c c3
        rw [e1]
        clear e1
        go_enter Try.func40, Try.ntmps40
        go_wp2_with (go_at_call 38; (with_reducible refine (times38_calls _ _ _).mono ?_); rintro e w1 ⟨rfl, rfl⟩)
        go_ret
        exact ⟨rfl, bel⟩
      · have e1 : cmpS t t2 s n s n2 = 1 := by rw [cmpS, if_neg (by simp [h1]), if_neg (by omega), c3]
        have e4 : (n == n2) = false := beq_eq_false_iff_ne.2 (by omega)
        clear h1 c c3
        rw [e1]
        clear e1
        go_enter Try.func40, Try.ntmps40
        go_wp2_with (go_at_call 38; (with_reducible refine (times38_calls _ _ _).mono ?_); rintro e w1 ⟨rfl, rfl⟩)
        go_ret
        exact ⟨rfl, bel⟩
    · have e1 : cmpS t t2 s n s2 n2 = 1 := by rw [cmpS, if_neg (by simp [h1]), if_pos (by omega), c]
      have e4 : (s == s2) = false := beq_eq_false_iff_ne.2 (by omega)
      clear h1 c
      rw [e1]
      clear e1
      go_enter Try.func40, Try.ntmps40
      go_wp2_with (go_at_call 38; (with_reducible refine (times38_calls _ _ _).mono ?_); rintro e w1 ⟨rfl, rfl⟩)
      go_ret
      exact ⟨rfl, bel⟩
  · have q1 : (cmpI (tkey t) (tkey t2) != 0) = true := by simpa using h1
    have e1 : cmpS t t2 s n s2 n2 = cmpI (tkey t) (tkey t2) := by rw [cmpS, if_pos h1]
    clear h1
    rw [e1]
    clear e1
    go_enter Try.func40, Try.ntmps40
    go_wp2_with (go_at_call 38; (with_reducible refine (times38_calls _ _ _).mono ?_); rintro e w1 ⟨rfl, rfl⟩)
    go_ret
    exact ⟨rfl, bel⟩


theorem later1 : later 4607182418800017408 4602678819172646912 = (4609434218613702656, 0) := by decide +kernel
theorem later2 : later 4845873199050653696 4602678819172646912 = (0, 7) := by decide +kernel
theorem norm1 : norm 9223372036854775808 = 0 ∧ normE 9223372036854775808 = 0 := by decide +kernel
theorem norm2 : norm 9221120237041090561 = 0 ∧ normE 9221120237041090561 = 7 := by decide +kernel

theorem l1_calls (w : World) : Calls Try.prog 33 #[.float .f64 4607182418800017408, .float .f64 4602678819172646912] w fun e w' => e = .returned (.tuple #[.float .f64 4609434218613702656, .int .i64 0]) ∧ Below w.heap.size w w' := by
  have h := later33_calls 4607182418800017408 4602678819172646912 w
  rw [later1] at h; exact h
theorem l2_calls (w : World) : Calls Try.prog 33 #[.float .f64 4845873199050653696, .float .f64 4602678819172646912] w fun e w' => e = .returned (.tuple #[.float .f64 0, .int .i64 7]) ∧ Below w.heap.size w w' := by
  have h := later33_calls 4845873199050653696 4602678819172646912 w
  rw [later2] at h; exact h
theorem n1_calls (w : World) : Calls Try.prog 31 #[.float .f64 9223372036854775808] w fun e w' => e = .returned (.tuple #[.float .f64 0, .int .i64 0]) ∧ w = w' := by
  have h := norm31_calls 9223372036854775808 w
  rw [norm1.1, norm1.2] at h; exact h
theorem n2_calls (w : World) : Calls Try.prog 31 #[.float .f64 9221120237041090561] w fun e w' => e = .returned (.tuple #[.float .f64 0, .int .i64 7]) ∧ w = w' := by
  have h := norm31_calls 9221120237041090561 w
  rw [norm2.1, norm2.2] at h; exact h
theorem sb_calls (w : World) : Calls Try.prog 72 #[.float .f64 0] w fun e w' => e = .returned (.bool false) ∧ w = w' := by
  have h := signbit_calls 0 w
  rw [show sgn 0 = false from by decide] at h; exact h
theorem c_calls (w : World) : Calls Try.prog 39 #[.agg #[.float .f64 4607182418800017408, .int .i64 0, .int .i64 0], .agg #[.float .f64 4607182418800017408, .int .i64 0, .int .i64 1]] w fun e w' => e = .returned (.int .i64 (-1)) ∧ Below w.heap.size w w' := by
  have h := compare39_calls 4607182418800017408 4607182418800017408 0 0 0 1 w
  rw [show cmpS 4607182418800017408 4607182418800017408 0 0 0 1 = -1 from by decide +kernel] at h; exact h

set_option maxRecDepth 100000 in
set_option maxHeartbeats 2000000 in
theorem awake_calls (w : World) : Calls Try.prog 35 #[] w fun e w' => e = .returned (.bool true) ∧ Below w.heap.size w w' := by
  have h1 : (FloatKind.f64.format.order 4609434218613702656 4609434218613702656 == some .eq) = true := by decide +kernel
  have HB := Aside0.mk (Below.refl w.heap.size w)
  go_enter Try.func35, Try.ntmps35
  go_wp2_with (first | (go_at_call 33; (with_reducible refine (l1_calls _).mono ?_); rintro e w1 ⟨rfl, hb⟩; have nb := Aside0.mk (below_step bel hb); clear HB hb; have HB := nb; clear nb) | (go_at_call 33; (with_reducible refine (l2_calls _).mono ?_); rintro e w1 ⟨rfl, hb⟩; have nb := Aside0.mk (below_step bel hb); clear HB hb; have HB := nb; clear nb) | (go_at_call 85; (with_reducible refine (copysign_calls _).mono ?_); rintro e w1 ⟨rfl, rfl⟩) | (go_at_call 31; (with_reducible refine (n1_calls _).mono ?_); rintro e w1 ⟨rfl, rfl⟩) | (go_at_call 86; (with_reducible refine (nan_calls _).mono ?_); rintro e w1 ⟨rfl, rfl⟩) | (go_at_call 31; (with_reducible refine (n2_calls _).mono ?_); rintro e w1 ⟨rfl, rfl⟩) | (go_at_call 72; (with_reducible refine (sb_calls _).mono ?_); rintro e w1 ⟨rfl, rfl⟩) | (go_at_call 39; (with_reducible refine (c_calls _).mono ?_); rintro e w1 ⟨rfl, hb⟩; have nb := Aside0.mk (below_step bel hb); clear HB hb; have HB := nb; clear nb))
  go_ret
  exact ⟨rfl, HB.out⟩

end Go.Proofs.Ytlbjcdfognofgaa.StampD
