/- The walk of PackOrders: for every four numbers it answers true. -/
import Derived.Test.YtlbjcdfognofgaaSBack
namespace Go.Proofs.Ytlbjcdfognofgaa.OrdersW
open Go.RowKit Go.Proofs.YtlbjcdfognofgaaW.PrintWords Go.Proofs.YtlbjcdfognofgaaW.PrintLast Go.Proofs.YtlbjcdfognofgaaW.PrintMore Go.Proofs.Ytlbjcdfognofgaa.Be Go.Proofs.Ytlbjcdfognofgaa.SBack

theorem lessU (a b : Int) (ha : 0 ≤ a ∧ a < 18446744073709551616) (hb : 0 ≤ b ∧ b < 18446744073709551616) :
    (decide (a < b) == Op.bytesLess (strOfNums (be8 a)).toList (strOfNums (be8 b)).toList) = true := by
  rw [less_strOfNums _ _ (be8_range a) (be8_range b), less_be8 a b ha hb]; simp

theorem eqU (a b : Int) (ha : 0 ≤ a ∧ a < 18446744073709551616) (hb : 0 ≤ b ∧ b < 18446744073709551616) :
    ((a == b) == ((strOfNums (be8 a)).toList == (strOfNums (be8 b)).toList)) = true := by
  rw [beq_strOfNums _ _ (be8_range a) (be8_range b), beq_be8 a b ha hb]; simp

theorem lessI (a b : Int) (ha : -9223372036854775808 ≤ a ∧ a < 9223372036854775808) (hb : -9223372036854775808 ≤ b ∧ b < 9223372036854775808) :
    (decide (a < b) == Op.bytesLess (strOfNums (be8 (a + 9223372036854775808))).toList (strOfNums (be8 (b + 9223372036854775808))).toList) = true := by
  rw [less_strOfNums _ _ (be8_range _) (be8_range _), less_be8 _ _ (by omega) (by omega)]
  simp

set_option maxRecDepth 100000 in
set_option maxHeartbeats 1000000 in
theorem walk (a b c d : Int) (ha : 0 ≤ a ∧ a < 18446744073709551616) (hb : 0 ≤ b ∧ b < 18446744073709551616) (hc : -9223372036854775808 ≤ c ∧ c < 9223372036854775808) (hd : -9223372036854775808 ≤ d ∧ d < 9223372036854775808) (w : World) :
    Calls Try.prog 4 #[.agg #[.int .u64 a, .int .u64 b, .int .i64 c, .int .i64 d]] w fun e w' => e = .returned (.bool true) ∧ Below w.heap.size w w' := by
  have L1 := beq_iff_eq.1 (lessU a b ha hb)
  have L2 := beq_iff_eq.1 (lessI c d hc hd)
  have L3 := beq_iff_eq.1 (eqU a b ha hb)
  have IC := Aside0.mk (fun w => I_calls c hc w)
  have ID := Aside0.mk (fun w => I_calls d hd w)
  have hu28 := Try.underlying28
  clear ha hb hc hd
  go_enter Try.func4, Try.ntmps4
  have HB := Aside0.mk (Below.refl w.heap.size w)
  go_wp2_with fail
  go_quiet (fail)
  go_wp2_with (first | (go_at_call 22; (with_reducible refine (awake_calls _).mono ?_); rintro e w1 ⟨rfl, hb⟩; have nb := Aside0.mk (below_step (by repeat (first | (with_reducible first | exact HB.out | apply below_alloc | apply pw_below_drewN | apply below_drew1) | exact HB.out)) hb); clear HB hb; have HB := nb; clear nb) | (go_at_call 23; (with_reducible refine (U_calls _ _).mono ?_); rintro e w1 ⟨rfl, hb⟩; have nb := Aside0.mk (below_step (by repeat (first | (with_reducible first | exact HB.out | apply below_alloc | apply pw_below_drewN | apply below_drew1) | exact HB.out)) hb); clear HB hb; have HB := nb; clear nb) | (go_at_call 25; (with_reducible refine (IC.out _).mono ?_); rintro e w1 ⟨rfl, hb⟩; have nb := Aside0.mk (below_step (by repeat (first | (with_reducible first | exact HB.out | apply below_alloc | apply pw_below_drewN | apply below_drew1) | exact HB.out)) hb); clear HB hb; have HB := nb; clear nb) | (go_at_call 25; (with_reducible refine (ID.out _).mono ?_); rintro e w1 ⟨rfl, hb⟩; have nb := Aside0.mk (below_step (by repeat (first | (with_reducible first | exact HB.out | apply below_alloc | apply pw_below_drewN | apply below_drew1) | exact HB.out)) hb); clear HB hb; have HB := nb; clear nb))
  go_ret
  exact ⟨rfl, HB.out⟩

theorem law (a b c d : Int) (ha : (Lit.int .u64 a).wf = true) (hb : (Lit.int .u64 b).wf = true) (hc : (Lit.int .i64 c).wf = true) (hd : (Lit.int .i64 d).wf = true) (w : World) :
    Calls Try.prog 4 #[.agg #[.int .u64 a, .int .u64 b, .int .i64 c, .int .i64 d]] w fun e w' => e = .returned (.bool true) ∧ Below w.heap.size w w' :=
  walk a b c d (wf_u64 ha) (wf_u64 hb) (wf_i64 hc) (wf_i64 hd) w

end Go.Proofs.Ytlbjcdfognofgaa.OrdersW
