/- Which of two events comes first: the reference. -/
import Derived.Test.YtlbjcdfognofgaaRecF
import Derived.Test.YtlbjcdfognofgaaOrdersS
import Derived.Deep.DrawnRows
import Derived.Deep.RegionHeld3
namespace Go.Proofs.Ytlbjcdfognofgaa.RecG
open Go.RowKit Go.Proofs.YtlbjcdfognofgaaW.PrintWords Go.Proofs.YtlbjcdfognofgaaW.PrintLast Go.Proofs.YtlbjcdfognofgaaW.PrintMore Go.Proofs.Ytlbjcdfognofgaa.Be Go.Proofs.Ytlbjcdfognofgaa.Fl Go.Proofs.Ytlbjcdfognofgaa.StampA Go.Proofs.Ytlbjcdfognofgaa.StampB Go.Proofs.Ytlbjcdfognofgaa.StampC Go.Proofs.Ytlbjcdfognofgaa.StampD Go.Proofs.Ytlbjcdfognofgaa.StampK Go.Proofs.Ytlbjcdfognofgaa.SRec Go.Proofs.Ytlbjcdfognofgaa.StampQ Go.Proofs.Ytlbjcdfognofgaa.StampR Go.Proofs.Ytlbjcdfognofgaa.Wk Go.Proofs.Ytlbjcdfognofgaa.RecA Go.Proofs.Ytlbjcdfognofgaa.RecB Go.Proofs.Ytlbjcdfognofgaa.RecC Go.Proofs.Ytlbjcdfognofgaa.RecD Go.Proofs.Ytlbjcdfognofgaa.RecE Go.Proofs.Ytlbjcdfognofgaa.RecF Go.Proofs.Ytlbjcdfognofgaa.OrdersS Go.Proofs.Ytlbjcdfognofgaa.PRecStates
attribute [local go_sem ↓] Go.wp_at_zero Go.wp_at_succ
attribute [local go_sem] run_store_float
set_option linter.unusedVariables false


theorem less_calls (a b : Int) (w : World) : Calls Try.prog 105 #[.int .i64 a, .int .i64 b] w fun e w' => e = .returned (.int .i64 (cmpI a b)) ∧ w = w' := by
  rcases Int.lt_trichotomy a b with h | h | h
  · have e : cmpI a b = -1 := if_pos h
    rw [e]
    clear e
    go_enter Try.func105, Try.ntmps105
    go_wp2
    go_ret
    exact ⟨rfl, rfl⟩
  · have e : cmpI a b = 0 := by rw [cmpI, if_neg (by omega), if_neg (by omega)]
    rw [e]
    clear e
    have h1 : decide (a < b) = false := decide_eq_false (by omega)
    have h2 : decide (b < a) = false := decide_eq_false (by omega)
    clear h
    go_enter Try.func105, Try.ntmps105
    go_wp2
    go_ret
    exact ⟨rfl, rfl⟩
  · have e : cmpI a b = 1 := by rw [cmpI, if_neg (by omega), if_pos h]
    rw [e]
    clear e
    have h1 : decide (a < b) = false := decide_eq_false (by omega)
    have h2 : decide (b < a) = true := decide_eq_true h
    clear h
    go_enter Try.func105, Try.ntmps105
    go_wp2
    go_ret
    exact ⟨rfl, rfl⟩

/-- Which of two events comes first. -/
def cmpE (t t2 : Nat) (d d2 s s2 n n2 p p2 : Int) : Int :=
  if cmpI (tkey t) (tkey t2) ≠ 0 then cmpI (tkey t) (tkey t2) else if cmpI d d2 ≠ 0 then cmpI d d2 else if cmpI s s2 ≠ 0 then cmpI s s2 else if cmpI n n2 ≠ 0 then cmpI n n2 else cmpI p p2


set_option maxRecDepth 100000 in
set_option maxHeartbeats 8000000 in
theorem compare74_calls (t t2 : Nat) (s n d p s2 n2 d2 p2 : Int) (w : World) :
    Calls Try.prog 74 #[.agg #[.float .f64 t, .int .i64 s, .int .i64 n, .int .i64 d, .int .i64 p], .agg #[.float .f64 t2, .int .i64 s2, .int .i64 n2, .int .i64 d2, .int .i64 p2]] w fun e w' => e = .returned (.int .i64 (cmpE t t2 d d2 s s2 n n2 p p2)) ∧ Below w.heap.size w w' := by
  have hu2 := Try.underlying42
  have hu3 := Try.underlying68
  have HB := Aside0.mk (Below.refl w.heap.size w)
  generalize hr : cmpE t t2 d d2 s s2 n n2 p p2 = r
  have HQ := Aside0.mk hr
  clear hr

  by_cases q0 : cmpI (tkey t) (tkey t2) = 0
  · skip
    by_cases q1 : cmpI d d2 = 0
    · skip
      by_cases q2 : cmpI s s2 = 0
      · skip
        by_cases q3 : cmpI n n2 = 0
        · skip
          by_cases q4 : cmpI p p2 = 0
          · skip
            have Hr : Aside0 (r = 0) := ⟨by have hr := HQ.out; unfold cmpE at hr; rw [if_neg (by rw [q0]; decide), if_neg (by rw [q1]; decide), if_neg (by rw [q2]; decide), if_neg (by rw [q3]; decide)] at hr; rw [← hr]; exact q4⟩
            have b0 : (cmpI (tkey t) (tkey t2) != 0) = false := by rw [q0]; rfl
            have b1 : (cmpI d d2 != 0) = false := by rw [q1]; rfl
            have b2 : (cmpI s s2 != 0) = false := by rw [q2]; rfl
            have b3 : (cmpI n n2 != 0) = false := by rw [q3]; rfl
            have b4 : (cmpI p p2 != 0) = false := by rw [q4]; rfl
            clear HQ q0 q1 q2 q3 q4
            go_enter Try.func74, Try.ntmps74
            go_wp2_with fail
            go_region_held3 (fun w' => w'.cell? ⟨w.heap.size, 0, none⟩ = some (.float .f64 t) ∧ w'.cell? ⟨w.heap.size, 1, none⟩ = some (.int .i64 s) ∧ w'.cell? ⟨w.heap.size, 2, none⟩ = some (.int .i64 n) ∧ w'.cell? ⟨w.heap.size, 3, none⟩ = some (.int .i64 d) ∧ w'.cell? ⟨w.heap.size, 4, none⟩ = some (.int .i64 p) ∧ w'.cell? ⟨w.heap.size + 1, 0, none⟩ = some (.float .f64 t2) ∧ w'.cell? ⟨w.heap.size + 1, 1, none⟩ = some (.int .i64 s2) ∧ w'.cell? ⟨w.heap.size + 1, 2, none⟩ = some (.int .i64 n2) ∧ w'.cell? ⟨w.heap.size + 1, 3, none⟩ = some (.int .i64 d2) ∧ w'.cell? ⟨w.heap.size + 1, 4, none⟩ = some (.int .i64 p2) ∧ w.heap.size + 1 < w'.heap.size)
              (go_keep)
              (first | (go_at_call 38; (with_reducible refine (times38_calls _ _ _).mono ?_); rintro e w1 ⟨rfl, rfl⟩) | (go_at_call 105; (with_reducible refine (less_calls _ _ _).mono ?_); rintro e w1 ⟨rfl, rfl⟩))
            go_wp2_with fail
            refine wp_loop_rounds 6 ?_
            rw [rounds_succ]
            go_wp2_with fail
            rw [rounds_succ]
            go_wp2_with fail
            rw [rounds_succ]
            go_wp2_with fail
            rw [rounds_succ]
            go_wp2_with fail
            rw [rounds_succ]
            go_wp2_with fail
            rw [rounds_succ]
            go_wp2_with fail
            rw [Hr.out]
            go_ret
            exact ⟨rfl, bel⟩

          · have Hr : Aside0 (r = cmpI p p2) := ⟨by have hr := HQ.out; unfold cmpE at hr; rw [if_neg (by rw [q0]; decide), if_neg (by rw [q1]; decide), if_neg (by rw [q2]; decide), if_neg (by rw [q3]; decide)] at hr; rw [← hr]⟩
            have b0 : (cmpI (tkey t) (tkey t2) != 0) = false := by rw [q0]; rfl
            have b1 : (cmpI d d2 != 0) = false := by rw [q1]; rfl
            have b2 : (cmpI s s2 != 0) = false := by rw [q2]; rfl
            have b3 : (cmpI n n2 != 0) = false := by rw [q3]; rfl
            have b4 : (cmpI p p2 != 0) = true := by simpa using q4
            clear HQ q0 q1 q2 q3 q4
            go_enter Try.func74, Try.ntmps74
            go_wp2_with fail
            go_region_held3 (fun w' => w'.cell? ⟨w.heap.size, 0, none⟩ = some (.float .f64 t) ∧ w'.cell? ⟨w.heap.size, 1, none⟩ = some (.int .i64 s) ∧ w'.cell? ⟨w.heap.size, 2, none⟩ = some (.int .i64 n) ∧ w'.cell? ⟨w.heap.size, 3, none⟩ = some (.int .i64 d) ∧ w'.cell? ⟨w.heap.size, 4, none⟩ = some (.int .i64 p) ∧ w'.cell? ⟨w.heap.size + 1, 0, none⟩ = some (.float .f64 t2) ∧ w'.cell? ⟨w.heap.size + 1, 1, none⟩ = some (.int .i64 s2) ∧ w'.cell? ⟨w.heap.size + 1, 2, none⟩ = some (.int .i64 n2) ∧ w'.cell? ⟨w.heap.size + 1, 3, none⟩ = some (.int .i64 d2) ∧ w'.cell? ⟨w.heap.size + 1, 4, none⟩ = some (.int .i64 p2) ∧ w.heap.size + 1 < w'.heap.size)
              (go_keep)
              (first | (go_at_call 38; (with_reducible refine (times38_calls _ _ _).mono ?_); rintro e w1 ⟨rfl, rfl⟩) | (go_at_call 105; (with_reducible refine (less_calls _ _ _).mono ?_); rintro e w1 ⟨rfl, rfl⟩))
            go_wp2_with fail
            refine wp_loop_rounds 6 ?_
            rw [rounds_succ]
            go_wp2_with fail
            rw [rounds_succ]
            go_wp2_with fail
            rw [rounds_succ]
            go_wp2_with fail
            rw [rounds_succ]
            go_wp2_with fail
            rw [rounds_succ]
            go_wp2_with fail
            rw [Hr.out]
            go_ret
            exact ⟨rfl, bel⟩

        · have Hr : Aside0 (r = cmpI n n2) := ⟨by have hr := HQ.out; unfold cmpE at hr; rw [if_neg (by rw [q0]; decide), if_neg (by rw [q1]; decide), if_neg (by rw [q2]; decide), if_pos q3] at hr; rw [← hr]⟩
          have b0 : (cmpI (tkey t) (tkey t2) != 0) = false := by rw [q0]; rfl
          have b1 : (cmpI d d2 != 0) = false := by rw [q1]; rfl
          have b2 : (cmpI s s2 != 0) = false := by rw [q2]; rfl
          have b3 : (cmpI n n2 != 0) = true := by simpa using q3
          clear HQ q0 q1 q2 q3
          go_enter Try.func74, Try.ntmps74
          go_wp2_with fail
          go_region_held3 (fun w' => w'.cell? ⟨w.heap.size, 0, none⟩ = some (.float .f64 t) ∧ w'.cell? ⟨w.heap.size, 1, none⟩ = some (.int .i64 s) ∧ w'.cell? ⟨w.heap.size, 2, none⟩ = some (.int .i64 n) ∧ w'.cell? ⟨w.heap.size, 3, none⟩ = some (.int .i64 d) ∧ w'.cell? ⟨w.heap.size, 4, none⟩ = some (.int .i64 p) ∧ w'.cell? ⟨w.heap.size + 1, 0, none⟩ = some (.float .f64 t2) ∧ w'.cell? ⟨w.heap.size + 1, 1, none⟩ = some (.int .i64 s2) ∧ w'.cell? ⟨w.heap.size + 1, 2, none⟩ = some (.int .i64 n2) ∧ w'.cell? ⟨w.heap.size + 1, 3, none⟩ = some (.int .i64 d2) ∧ w'.cell? ⟨w.heap.size + 1, 4, none⟩ = some (.int .i64 p2) ∧ w.heap.size + 1 < w'.heap.size)
            (go_keep)
            (first | (go_at_call 38; (with_reducible refine (times38_calls _ _ _).mono ?_); rintro e w1 ⟨rfl, rfl⟩) | (go_at_call 105; (with_reducible refine (less_calls _ _ _).mono ?_); rintro e w1 ⟨rfl, rfl⟩))
          go_wp2_with fail
          refine wp_loop_rounds 6 ?_
          rw [rounds_succ]
          go_wp2_with fail
          rw [rounds_succ]
          go_wp2_with fail
          rw [rounds_succ]
          go_wp2_with fail
          rw [rounds_succ]
          go_wp2_with fail
          rw [Hr.out]
          go_ret
          exact ⟨rfl, bel⟩

      · have Hr : Aside0 (r = cmpI s s2) := ⟨by have hr := HQ.out; unfold cmpE at hr; rw [if_neg (by rw [q0]; decide), if_neg (by rw [q1]; decide), if_pos q2] at hr; rw [← hr]⟩
        have b0 : (cmpI (tkey t) (tkey t2) != 0) = false := by rw [q0]; rfl
        have b1 : (cmpI d d2 != 0) = false := by rw [q1]; rfl
        have b2 : (cmpI s s2 != 0) = true := by simpa using q2
        clear HQ q0 q1 q2
        go_enter Try.func74, Try.ntmps74
        go_wp2_with fail
        go_region_held3 (fun w' => w'.cell? ⟨w.heap.size, 0, none⟩ = some (.float .f64 t) ∧ w'.cell? ⟨w.heap.size, 1, none⟩ = some (.int .i64 s) ∧ w'.cell? ⟨w.heap.size, 2, none⟩ = some (.int .i64 n) ∧ w'.cell? ⟨w.heap.size, 3, none⟩ = some (.int .i64 d) ∧ w'.cell? ⟨w.heap.size, 4, none⟩ = some (.int .i64 p) ∧ w'.cell? ⟨w.heap.size + 1, 0, none⟩ = some (.float .f64 t2) ∧ w'.cell? ⟨w.heap.size + 1, 1, none⟩ = some (.int .i64 s2) ∧ w'.cell? ⟨w.heap.size + 1, 2, none⟩ = some (.int .i64 n2) ∧ w'.cell? ⟨w.heap.size + 1, 3, none⟩ = some (.int .i64 d2) ∧ w'.cell? ⟨w.heap.size + 1, 4, none⟩ = some (.int .i64 p2) ∧ w.heap.size + 1 < w'.heap.size)
          (go_keep)
          (first | (go_at_call 38; (with_reducible refine (times38_calls _ _ _).mono ?_); rintro e w1 ⟨rfl, rfl⟩) | (go_at_call 105; (with_reducible refine (less_calls _ _ _).mono ?_); rintro e w1 ⟨rfl, rfl⟩))
        go_wp2_with fail
        refine wp_loop_rounds 6 ?_
        rw [rounds_succ]
        go_wp2_with fail
        rw [rounds_succ]
        go_wp2_with fail
        rw [rounds_succ]
        go_wp2_with fail
        rw [Hr.out]
        go_ret
        exact ⟨rfl, bel⟩

    · have Hr : Aside0 (r = cmpI d d2) := ⟨by have hr := HQ.out; unfold cmpE at hr; rw [if_neg (by rw [q0]; decide), if_pos q1] at hr; rw [← hr]⟩
      have b0 : (cmpI (tkey t) (tkey t2) != 0) = false := by rw [q0]; rfl
      have b1 : (cmpI d d2 != 0) = true := by simpa using q1
      clear HQ q0 q1
      go_enter Try.func74, Try.ntmps74
      go_wp2_with fail
      go_region_held3 (fun w' => w'.cell? ⟨w.heap.size, 0, none⟩ = some (.float .f64 t) ∧ w'.cell? ⟨w.heap.size, 1, none⟩ = some (.int .i64 s) ∧ w'.cell? ⟨w.heap.size, 2, none⟩ = some (.int .i64 n) ∧ w'.cell? ⟨w.heap.size, 3, none⟩ = some (.int .i64 d) ∧ w'.cell? ⟨w.heap.size, 4, none⟩ = some (.int .i64 p) ∧ w'.cell? ⟨w.heap.size + 1, 0, none⟩ = some (.float .f64 t2) ∧ w'.cell? ⟨w.heap.size + 1, 1, none⟩ = some (.int .i64 s2) ∧ w'.cell? ⟨w.heap.size + 1, 2, none⟩ = some (.int .i64 n2) ∧ w'.cell? ⟨w.heap.size + 1, 3, none⟩ = some (.int .i64 d2) ∧ w'.cell? ⟨w.heap.size + 1, 4, none⟩ = some (.int .i64 p2) ∧ w.heap.size + 1 < w'.heap.size)
        (go_keep)
        (first | (go_at_call 38; (with_reducible refine (times38_calls _ _ _).mono ?_); rintro e w1 ⟨rfl, rfl⟩) | (go_at_call 105; (with_reducible refine (less_calls _ _ _).mono ?_); rintro e w1 ⟨rfl, rfl⟩))
      go_wp2_with fail
      refine wp_loop_rounds 6 ?_
      rw [rounds_succ]
      go_wp2_with fail
      rw [rounds_succ]
      go_wp2_with fail
      rw [Hr.out]
      go_ret
      exact ⟨rfl, bel⟩

  · have Hr : Aside0 (r = cmpI (tkey t) (tkey t2)) := ⟨by have hr := HQ.out; unfold cmpE at hr; rw [if_pos q0] at hr; rw [← hr]⟩
    have b0 : (cmpI (tkey t) (tkey t2) != 0) = true := by simpa using q0
    clear HQ q0
    go_enter Try.func74, Try.ntmps74
    go_wp2_with fail
    go_region_held3 (fun w' => w'.cell? ⟨w.heap.size, 0, none⟩ = some (.float .f64 t) ∧ w'.cell? ⟨w.heap.size, 1, none⟩ = some (.int .i64 s) ∧ w'.cell? ⟨w.heap.size, 2, none⟩ = some (.int .i64 n) ∧ w'.cell? ⟨w.heap.size, 3, none⟩ = some (.int .i64 d) ∧ w'.cell? ⟨w.heap.size, 4, none⟩ = some (.int .i64 p) ∧ w'.cell? ⟨w.heap.size + 1, 0, none⟩ = some (.float .f64 t2) ∧ w'.cell? ⟨w.heap.size + 1, 1, none⟩ = some (.int .i64 s2) ∧ w'.cell? ⟨w.heap.size + 1, 2, none⟩ = some (.int .i64 n2) ∧ w'.cell? ⟨w.heap.size + 1, 3, none⟩ = some (.int .i64 d2) ∧ w'.cell? ⟨w.heap.size + 1, 4, none⟩ = some (.int .i64 p2) ∧ w.heap.size + 1 < w'.heap.size)
      (go_keep)
      (first | (go_at_call 38; (with_reducible refine (times38_calls _ _ _).mono ?_); rintro e w1 ⟨rfl, rfl⟩) | (go_at_call 105; (with_reducible refine (less_calls _ _ _).mono ?_); rintro e w1 ⟨rfl, rfl⟩))
    go_wp2_with fail
    refine wp_loop_rounds 6 ?_
    rw [rounds_succ]
    go_wp2_with fail
    rw [Hr.out]
    go_ret
    exact ⟨rfl, bel⟩


end Go.Proofs.Ytlbjcdfognofgaa.RecG
