/- The walk of StampGrows: what comes later is greater than what it comes behind, and of a greater one no less. -/
import Derived.Test.YtlbjcdfognofgaaStampD
import Derived.Deep.DrawnRows
import Derived.Deep.RegionHeld3
namespace Go.Proofs.Ytlbjcdfognofgaa.GrowsW
open Go.RowKit Go.Proofs.YtlbjcdfognofgaaW.PrintWords Go.Proofs.YtlbjcdfognofgaaW.PrintLast Go.Proofs.YtlbjcdfognofgaaW.PrintMore Go.Proofs.Ytlbjcdfognofgaa.Be Go.Proofs.Ytlbjcdfognofgaa.Fl Go.Proofs.Ytlbjcdfognofgaa.StampA Go.Proofs.Ytlbjcdfognofgaa.StampB Go.Proofs.Ytlbjcdfognofgaa.StampC Go.Proofs.Ytlbjcdfognofgaa.StampD
attribute [local go_sem ↓] Go.wp_at_zero Go.wp_at_succ


theorem sval_norm {s : Nat} (h : ¬ isNan s) : sval (norm s) = sval s ∧ ¬ isNan (norm s) := by
  unfold norm
  rw [if_neg h]
  by_cases h0 : sval s = 0
  · rw [if_pos h0, h0]; exact ⟨sval_zero, not_nan_zero⟩
  · rw [if_neg h0]; exact ⟨rfl, h⟩

/-- What comes later, if it does. -/
theorem later_ok (t d : Nat) : (later t d).2 = 7 ∨ ((later t d).2 = 0 ∧ ¬ isNan t ∧ ∃ s, Ieee.double.add t d = some s ∧ sval t < sval s ∧ sval (later t d).1 = sval s ∧ ¬ isNan (later t d).1) := by
  unfold later
  by_cases h : isNan t ∨ isNan d ∨ sval d ≤ 0
  · rw [if_pos h]; exact .inl rfl
  · rw [if_neg h]
    cases ha : Ieee.double.add t d with
    | none => exact .inl rfl
    | some s =>
      simp only
      by_cases hlt : sval t < sval s
      · rw [if_pos hlt]
        have hn := sval_norm (add_num ha)
        exact .inr ⟨rfl, fun g => h (.inl g), s, rfl, hlt, hn.1, hn.2⟩
      · rw [if_neg hlt]; exact .inl rfl

set_option maxRecDepth 100000 in
set_option maxHeartbeats 4000000 in
theorem walk (t u d x y : Nat) (e f : Int) (w : World)
    (CX : Aside0 (∀ w, Calls Try.prog 33 #[.float .f64 t, .float .f64 d] w fun r w' => r = .returned (.tuple #[.float .f64 x, .int .i64 e]) ∧ Below w.heap.size w w'))
    (CY : Aside0 (∀ w, Calls Try.prog 33 #[.float .f64 u, .float .f64 d] w fun r w' => r = .returned (.tuple #[.float .f64 y, .int .i64 f]) ∧ Below w.heap.size w w'))
    (hc : 1 ≤ e ∨ ((e ≤ 0 ∧ 0 ≤ e) ∧ (FloatKind.f64.format.order x t == some .gt) = true ∧ (FloatKind.f64.format.order x x != some .eq) = false ∧
      (1 ≤ f ∨ ((f ≤ 0 ∧ 0 ≤ f) ∧ (((FloatKind.f64.format.order t u == some .lt) = false ∧ (FloatKind.f64.format.order t u == some .eq) = false) ∨ (FloatKind.f64.format.order x y == some .lt) = true ∨ ((FloatKind.f64.format.order x y == some .lt) = false ∧ (FloatKind.f64.format.order x y == some .eq) = true)))))) :
    Calls Try.prog 10 #[.float .f64 t, .float .f64 u, .float .f64 d] w fun e w' => e = .returned (.bool true) ∧ Below w.heap.size w w' := by
  have HB := Aside0.mk (Below.refl w.heap.size w)
  rcases hc with k1 | ⟨⟨k1, k2⟩, k3, k4, k5 | ⟨⟨k5, k6⟩, ⟨k7, k8⟩ | k7 | ⟨k7, k8⟩⟩⟩
  all_goals
    go_enter Try.func10, Try.ntmps10
    go_wp2_with (first | (go_at_call 33; (with_reducible refine (CX.out _).mono ?_); rintro e w1 ⟨rfl, hb⟩; have nb := Aside0.mk (below_step (by repeat (first | (with_reducible first | exact HB.out | apply below_alloc | apply pw_below_drewN | apply below_drew1) | exact HB.out)) hb); clear HB hb; have HB := nb; clear nb) | (go_at_call 33; (with_reducible refine (CY.out _).mono ?_); rintro e w1 ⟨rfl, hb⟩; have nb := Aside0.mk (below_step (by repeat (first | (with_reducible first | exact HB.out | apply below_alloc | apply pw_below_drewN | apply below_drew1) | exact HB.out)) hb); clear HB hb; have HB := nb; clear nb) | (go_at_call 35; (with_reducible refine (awake_calls _).mono ?_); rintro e w1 ⟨rfl, hb⟩; have nb := Aside0.mk (below_step (by repeat (first | (with_reducible first | exact HB.out | apply below_alloc | apply pw_below_drewN | apply below_drew1) | exact HB.out)) hb); clear HB hb; have HB := nb; clear nb))
    all_goals go_ret
    all_goals exact ⟨by first | rfl | (simp [*]; done) | (simp_all; done), HB.out⟩

theorem law (t u d : Nat) {w : World} (_ : (Lit.float .f64 t).wf = true) (_ : (Lit.float .f64 u).wf = true) (_ : (Lit.float .f64 d).wf = true) :
    Calls Try.prog 10 #[.float .f64 t, .float .f64 u, .float .f64 d] w fun e w' => e = .returned (.bool true) ∧ Below w.heap.size w w' := by
  refine walk t u d (later t d).1 (later u d).1 (later t d).2 (later u d).2 w ⟨fun w => later33_calls t d w⟩ ⟨fun w => later33_calls u d w⟩ ?_
  rcases later_ok t d with h | ⟨h, nt, s, hs, hlt, hv, hn⟩
  · exact .inl (by omega)
  refine .inr ⟨⟨by omega, by omega⟩, by rw [ord_gt]; exact decide_eq_true ⟨hn, nt, by omega⟩, by rw [self_neq]; exact decide_eq_false hn, ?_⟩
  rcases later_ok u d with k | ⟨k, nu, s2, hs2, _, hv2, hn2⟩
  · exact .inl (by omega)
  refine .inr ⟨⟨by omega, by omega⟩, ?_⟩
  by_cases htu : sval t ≤ sval u
  · have hm := add_mono htu hs hs2
    refine .inr ?_
    rcases Int.lt_or_eq_of_le hm with h1 | h1
    · exact .inl (by rw [ord_lt]; exact decide_eq_true ⟨hn, hn2, by omega⟩)
    · exact .inr ⟨by rw [ord_lt]; exact decide_eq_false (by omega), by rw [ord_eq]; exact decide_eq_true ⟨hn, hn2, by omega⟩⟩
  · exact .inl ⟨by rw [ord_lt]; exact decide_eq_false (by omega), by rw [ord_eq]; exact decide_eq_false (by omega)⟩

end Go.Proofs.Ytlbjcdfognofgaa.GrowsW
