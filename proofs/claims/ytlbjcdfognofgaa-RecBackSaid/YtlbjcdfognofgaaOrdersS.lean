/- The walk of StampOrders: how stamps stand to each other is an order. -/
import Derived.Test.YtlbjcdfognofgaaWk
import Derived.Test.YtlbjcdfognofgaaStampD
import Derived.Deep.DrawnRows
import Derived.Deep.RegionHeld3
namespace Go.Proofs.Ytlbjcdfognofgaa.OrdersS
open Go.RowKit Go.Proofs.YtlbjcdfognofgaaW.PrintWords Go.Proofs.YtlbjcdfognofgaaW.PrintLast Go.Proofs.YtlbjcdfognofgaaW.PrintMore Go.Proofs.Ytlbjcdfognofgaa.Be Go.Proofs.Ytlbjcdfognofgaa.Fl Go.Proofs.Ytlbjcdfognofgaa.StampA Go.Proofs.Ytlbjcdfognofgaa.StampB Go.Proofs.Ytlbjcdfognofgaa.StampC Go.Proofs.Ytlbjcdfognofgaa.StampD Go.Proofs.Ytlbjcdfognofgaa.Wk
attribute [local go_sem ↓] Go.wp_at_zero Go.wp_at_succ


/-- A stamp's place: its time's, its source's, its number's. -/
theorem cmpS_cases (t t2 : Nat) (s n s2 n2 : Int) :
    (cmpS t t2 s n s2 n2 = -1 ∧ (tkey t < tkey t2 ∨ tkey t = tkey t2 ∧ (s < s2 ∨ s = s2 ∧ n < n2))) ∨ (cmpS t t2 s n s2 n2 = 0 ∧ tkey t = tkey t2 ∧ s = s2 ∧ n = n2) ∨
    (cmpS t t2 s n s2 n2 = 1 ∧ (tkey t2 < tkey t ∨ tkey t = tkey t2 ∧ (s2 < s ∨ s = s2 ∧ n2 < n))) := by
  unfold cmpS
  rcases cmpI_cases (tkey t) (tkey t2) with ⟨h1, c1⟩ | ⟨h1, c1⟩ | ⟨h1, c1⟩
  · rw [c1, if_pos (by decide)]; exact .inl ⟨rfl, .inl h1⟩
  · rw [c1, if_neg (by decide)]
    rcases cmpI_cases s s2 with ⟨h2, c2⟩ | ⟨h2, c2⟩ | ⟨h2, c2⟩
    · rw [c2, if_pos (by decide)]; exact .inl ⟨rfl, .inr ⟨h1, .inl h2⟩⟩
    · rw [c2, if_neg (by decide)]
      rcases cmpI_cases n n2 with ⟨h3, c3⟩ | ⟨h3, c3⟩ | ⟨h3, c3⟩
      · rw [c3]; exact .inl ⟨rfl, .inr ⟨h1, .inr ⟨h2, h3⟩⟩⟩
      · rw [c3]; exact .inr (.inl ⟨rfl, h1, h2, h3⟩)
      · rw [c3]; exact .inr (.inr ⟨rfl, .inr ⟨h1, .inr ⟨h2, h3⟩⟩⟩)
    · rw [c2, if_pos (by decide)]; exact .inr (.inr ⟨rfl, .inr ⟨h1, .inl h2⟩⟩)
  · rw [c1, if_pos (by decide)]; exact .inr (.inr ⟨rfl, .inl h1⟩)

theorem self0 (t : Nat) (s n : Int) : cmpS t t s n s n = 0 := by
  rcases cmpS_cases t t s n s n with h | h | h <;> omega

theorem turned (t t2 : Nat) (s n s2 n2 : Int) : cmpS t2 t s2 n2 s n = -cmpS t t2 s n s2 n2 := by
  rcases cmpS_cases t t2 s n s2 n2 with h | h | h <;> rcases cmpS_cases t2 t s2 n2 s n with k | k | k <;> omega

theorem range (t t2 : Nat) (s n s2 n2 : Int) : cmpS t t2 s n s2 n2 = -1 ∨ cmpS t t2 s n s2 n2 = 0 ∨ cmpS t t2 s n s2 n2 = 1 := by
  rcases cmpS_cases t t2 s n s2 n2 with h | h | h <;> omega

theorem through (t t2 t3 : Nat) (s n s2 n2 s3 n3 : Int) :
    (cmpS t t2 s n s2 n2 ≤ 0 → cmpS t2 t3 s2 n2 s3 n3 ≤ 0 → cmpS t t3 s n s3 n3 ≤ 0) ∧ (cmpS t t2 s n s2 n2 < 0 → cmpS t2 t3 s2 n2 s3 n3 ≤ 0 → cmpS t t3 s n s3 n3 < 0) ∧
    (cmpS t t2 s n s2 n2 ≤ 0 → cmpS t2 t3 s2 n2 s3 n3 < 0 → cmpS t t3 s n s3 n3 < 0) := by
  rcases cmpS_cases t t2 s n s2 n2 with h | h | h <;> rcases cmpS_cases t2 t3 s2 n2 s3 n3 with k | k | k <;> rcases cmpS_cases t t3 s n s3 n3 with l | l | l <;> omega

set_option maxRecDepth 100000 in
set_option maxHeartbeats 4000000 in
theorem walk (t : Nat) (s n : Int) (t2 : Nat) (s2 n2 : Int) (t3 : Nat) (s3 n3 : Int) (x y z : Int) (w : World)
    (CX : Aside0 (Gives 39 #[.agg #[.float .f64 t, .int .i64 s, .int .i64 n], .agg #[.float .f64 t2, .int .i64 s2, .int .i64 n2]] (.int .i64 x)))
    (CY : Aside0 (Gives 39 #[.agg #[.float .f64 t2, .int .i64 s2, .int .i64 n2], .agg #[.float .f64 t3, .int .i64 s3, .int .i64 n3]] (.int .i64 y)))
    (CZ : Aside0 (Gives 39 #[.agg #[.float .f64 t, .int .i64 s, .int .i64 n], .agg #[.float .f64 t3, .int .i64 s3, .int .i64 n3]] (.int .i64 z)))
    (CA : Aside0 (Gives 39 #[.agg #[.float .f64 t, .int .i64 s, .int .i64 n], .agg #[.float .f64 t, .int .i64 s, .int .i64 n]] (.int .i64 0)))
    (CT : Aside0 (Gives 39 #[.agg #[.float .f64 t2, .int .i64 s2, .int .i64 n2], .agg #[.float .f64 t, .int .i64 s, .int .i64 n]] (.int .i64 (-x))))
    (hx1 : -1 ≤ x) (hx2 : x ≤ 1) (hc : 0 < x ∨ (x ≤ 0 ∧ 0 ≤ x ∧ 0 < y) ∨ (x < 0 ∧ 0 < y) ∨ (x < 0 ∧ y ≤ 0 ∧ 0 ≤ y ∧ z < 0) ∨ (x < 0 ∧ y < 0 ∧ z < 0) ∨ (x ≤ 0 ∧ 0 ≤ x ∧ y < 0 ∧ z < 0) ∨ (x ≤ 0 ∧ 0 ≤ x ∧ y ≤ 0 ∧ 0 ≤ y ∧ z ≤ 0)) :
    Calls Try.prog 8 #[.agg #[.float .f64 t, .int .i64 s, .int .i64 n], .agg #[.float .f64 t2, .int .i64 s2, .int .i64 n2], .agg #[.float .f64 t3, .int .i64 s3, .int .i64 n3]] w fun e w' => e = .returned (.bool true) ∧ Below w.heap.size w w' := by
  have hu2 := Try.underlying42
  have HB := Aside0.mk (Below.refl w.heap.size w)
  rcases hc with k1 | ⟨k1, k2, k3⟩ | ⟨k1, k2⟩ | ⟨k1, k2, k3, k4⟩ | ⟨k1, k2, k3⟩ | ⟨k1, k2, k3, k4⟩ | ⟨k1, k2, k3, k4, k5⟩
  all_goals
    go_enter Try.func8, Try.ntmps8
    go_wp2_with fail
    go_region_held3 (fun w' => w'.cell? ⟨w.heap.size, 0, none⟩ = some (.float .f64 t) ∧ w'.cell? ⟨w.heap.size, 1, none⟩ = some (.int .i64 s) ∧ w'.cell? ⟨w.heap.size, 2, none⟩ = some (.int .i64 n) ∧ w'.cell? ⟨w.heap.size + 1, 0, none⟩ = some (.float .f64 t2) ∧ w'.cell? ⟨w.heap.size + 1, 1, none⟩ = some (.int .i64 s2) ∧ w'.cell? ⟨w.heap.size + 1, 2, none⟩ = some (.int .i64 n2) ∧ w'.cell? ⟨w.heap.size + 1 + 1, 0, none⟩ = some (.float .f64 t3) ∧ w'.cell? ⟨w.heap.size + 1 + 1, 1, none⟩ = some (.int .i64 s3) ∧ w'.cell? ⟨w.heap.size + 1 + 1, 2, none⟩ = some (.int .i64 n3) ∧ w.heap.size + 1 + 1 < w'.heap.size)
      (refine ⟨?_, ?_, ?_, ?_, ?_, ?_, ?_, ?_, ?_, ?_⟩ <;> first | assumption | (rw [hcA _ _ (by first | assumption | (simp; done) | (simp; omega) | omega)]; first | assumption | (go_simp; done) | (simp; done)) | (have hs := hbA.size; simp at hs ⊢; omega) | (rw [hcB _ _ (by first | assumption | (simp; done) | (simp; omega) | omega)]; first | assumption | (go_simp; done) | (simp; done)) | (have hs := hbB.size; simp at hs ⊢; omega) | (rw [hcC _ _ (by first | assumption | (simp; done) | (simp; omega) | omega)]; first | assumption | (go_simp; done) | (simp; done)) | (have hs := hbC.size; simp at hs ⊢; omega) | (go_keep; done) | (go_simp; done) | (simp; omega))
      (first | (go_at_call 39; (with_reducible refine (CX.out _).mono ?_); rintro e wA ⟨rfl, hbA⟩; have hcA := bcell hbA; have nb := Aside0.mk (below_step bel hbA); clear HB; have HB := nb; clear nb) | (go_at_call 39; (with_reducible refine (CY.out _).mono ?_); rintro e wB ⟨rfl, hbB⟩; have hcB := bcell hbB; have nb := Aside0.mk (below_step bel hbB); clear HB; have HB := nb; clear nb) | (go_at_call 39; (with_reducible refine (CZ.out _).mono ?_); rintro e wC ⟨rfl, hbC⟩; have hcC := bcell hbC; have nb := Aside0.mk (below_step bel hbC); clear HB; have HB := nb; clear nb))
    obtain ⟨c0, c1, c2, c3, c4, c5, c6, c7, c8, hg⟩ : (wC.cell? ⟨w.heap.size, 0, none⟩ = some (.float .f64 t) ∧ wC.cell? ⟨w.heap.size, 1, none⟩ = some (.int .i64 s) ∧ wC.cell? ⟨w.heap.size, 2, none⟩ = some (.int .i64 n) ∧ wC.cell? ⟨w.heap.size + 1, 0, none⟩ = some (.float .f64 t2) ∧ wC.cell? ⟨w.heap.size + 1, 1, none⟩ = some (.int .i64 s2) ∧ wC.cell? ⟨w.heap.size + 1, 2, none⟩ = some (.int .i64 n2) ∧ wC.cell? ⟨w.heap.size + 1 + 1, 0, none⟩ = some (.float .f64 t3) ∧ wC.cell? ⟨w.heap.size + 1 + 1, 1, none⟩ = some (.int .i64 s3) ∧ wC.cell? ⟨w.heap.size + 1 + 1, 2, none⟩ = some (.int .i64 n3) ∧ w.heap.size + 1 + 1 < wC.heap.size) := by assumption
    clear hcA hbA hcB hbB hcC hbC
    go_wp2_with (first | (go_at_call 39; (with_reducible refine (CA.out _).mono ?_); rintro e w1 ⟨rfl, hb⟩; have nb := Aside0.mk (below_step bel hb); clear HB; have HB := nb; clear nb; have hc := bcell hb; have p0 : w1.cell? ⟨w.heap.size, 0, none⟩ = some (.float .f64 t) := (hc _ _ (by first | omega | (simp; omega))).trans c0; have p1 : w1.cell? ⟨w.heap.size, 1, none⟩ = some (.int .i64 s) := (hc _ _ (by first | omega | (simp; omega))).trans c1; have p2 : w1.cell? ⟨w.heap.size, 2, none⟩ = some (.int .i64 n) := (hc _ _ (by first | omega | (simp; omega))).trans c2; have p3 : w1.cell? ⟨w.heap.size + 1, 0, none⟩ = some (.float .f64 t2) := (hc _ _ (by first | omega | (simp; omega))).trans c3; have p4 : w1.cell? ⟨w.heap.size + 1, 1, none⟩ = some (.int .i64 s2) := (hc _ _ (by first | omega | (simp; omega))).trans c4; have p5 : w1.cell? ⟨w.heap.size + 1, 2, none⟩ = some (.int .i64 n2) := (hc _ _ (by first | omega | (simp; omega))).trans c5; have p6 : w1.cell? ⟨w.heap.size + 1 + 1, 0, none⟩ = some (.float .f64 t3) := (hc _ _ (by first | omega | (simp; omega))).trans c6; have p7 : w1.cell? ⟨w.heap.size + 1 + 1, 1, none⟩ = some (.int .i64 s3) := (hc _ _ (by first | omega | (simp; omega))).trans c7; have p8 : w1.cell? ⟨w.heap.size + 1 + 1, 2, none⟩ = some (.int .i64 n3) := (hc _ _ (by first | omega | (simp; omega))).trans c8; have hg1 := Nat.lt_of_lt_of_le hg hb.size; clear hc hg; have hg := hg1; clear hg1; clear c0; have c0 := p0; clear p0; clear c1; have c1 := p1; clear p1; clear c2; have c2 := p2; clear p2; clear c3; have c3 := p3; clear p3; clear c4; have c4 := p4; clear p4; clear c5; have c5 := p5; clear p5; clear c6; have c6 := p6; clear p6; clear c7; have c7 := p7; clear p7; clear c8; have c8 := p8; clear p8; clear hb) | (go_at_call 39; (with_reducible refine (CT.out _).mono ?_); rintro e w1 ⟨rfl, hb⟩; have nb := Aside0.mk (below_step bel hb); clear HB; have HB := nb; clear nb; have hc := bcell hb; have p0 : w1.cell? ⟨w.heap.size, 0, none⟩ = some (.float .f64 t) := (hc _ _ (by first | omega | (simp; omega))).trans c0; have p1 : w1.cell? ⟨w.heap.size, 1, none⟩ = some (.int .i64 s) := (hc _ _ (by first | omega | (simp; omega))).trans c1; have p2 : w1.cell? ⟨w.heap.size, 2, none⟩ = some (.int .i64 n) := (hc _ _ (by first | omega | (simp; omega))).trans c2; have p3 : w1.cell? ⟨w.heap.size + 1, 0, none⟩ = some (.float .f64 t2) := (hc _ _ (by first | omega | (simp; omega))).trans c3; have p4 : w1.cell? ⟨w.heap.size + 1, 1, none⟩ = some (.int .i64 s2) := (hc _ _ (by first | omega | (simp; omega))).trans c4; have p5 : w1.cell? ⟨w.heap.size + 1, 2, none⟩ = some (.int .i64 n2) := (hc _ _ (by first | omega | (simp; omega))).trans c5; have p6 : w1.cell? ⟨w.heap.size + 1 + 1, 0, none⟩ = some (.float .f64 t3) := (hc _ _ (by first | omega | (simp; omega))).trans c6; have p7 : w1.cell? ⟨w.heap.size + 1 + 1, 1, none⟩ = some (.int .i64 s3) := (hc _ _ (by first | omega | (simp; omega))).trans c7; have p8 : w1.cell? ⟨w.heap.size + 1 + 1, 2, none⟩ = some (.int .i64 n3) := (hc _ _ (by first | omega | (simp; omega))).trans c8; have hg1 := Nat.lt_of_lt_of_le hg hb.size; clear hc hg; have hg := hg1; clear hg1; clear c0; have c0 := p0; clear p0; clear c1; have c1 := p1; clear p1; clear c2; have c2 := p2; clear p2; clear c3; have c3 := p3; clear p3; clear c4; have c4 := p4; clear p4; clear c5; have c5 := p5; clear p5; clear c6; have c6 := p6; clear p6; clear c7; have c7 := p7; clear p7; clear c8; have c8 := p8; clear p8; clear hb) | (go_at_call 35; (with_reducible refine (awake_calls _).mono ?_); rintro e w1 ⟨rfl, hb⟩; have nb := Aside0.mk (below_step bel hb); clear HB; have HB := nb; clear nb; have hc := bcell hb; have p0 : w1.cell? ⟨w.heap.size, 0, none⟩ = some (.float .f64 t) := (hc _ _ (by first | omega | (simp; omega))).trans c0; have p1 : w1.cell? ⟨w.heap.size, 1, none⟩ = some (.int .i64 s) := (hc _ _ (by first | omega | (simp; omega))).trans c1; have p2 : w1.cell? ⟨w.heap.size, 2, none⟩ = some (.int .i64 n) := (hc _ _ (by first | omega | (simp; omega))).trans c2; have p3 : w1.cell? ⟨w.heap.size + 1, 0, none⟩ = some (.float .f64 t2) := (hc _ _ (by first | omega | (simp; omega))).trans c3; have p4 : w1.cell? ⟨w.heap.size + 1, 1, none⟩ = some (.int .i64 s2) := (hc _ _ (by first | omega | (simp; omega))).trans c4; have p5 : w1.cell? ⟨w.heap.size + 1, 2, none⟩ = some (.int .i64 n2) := (hc _ _ (by first | omega | (simp; omega))).trans c5; have p6 : w1.cell? ⟨w.heap.size + 1 + 1, 0, none⟩ = some (.float .f64 t3) := (hc _ _ (by first | omega | (simp; omega))).trans c6; have p7 : w1.cell? ⟨w.heap.size + 1 + 1, 1, none⟩ = some (.int .i64 s3) := (hc _ _ (by first | omega | (simp; omega))).trans c7; have p8 : w1.cell? ⟨w.heap.size + 1 + 1, 2, none⟩ = some (.int .i64 n3) := (hc _ _ (by first | omega | (simp; omega))).trans c8; have hg1 := Nat.lt_of_lt_of_le hg hb.size; clear hc hg; have hg := hg1; clear hg1; clear c0; have c0 := p0; clear p0; clear c1; have c1 := p1; clear p1; clear c2; have c2 := p2; clear p2; clear c3; have c3 := p3; clear p3; clear c4; have c4 := p4; clear p4; clear c5; have c5 := p5; clear p5; clear c6; have c6 := p6; clear p6; clear c7; have c7 := p7; clear p7; clear c8; have c8 := p8; clear p8; clear hb))
    go_ret
    exact ⟨by first | rfl | (simp; omega), HB.out⟩

theorem law (t : Nat) (s n : Int) (t2 : Nat) (s2 n2 : Int) (t3 : Nat) (s3 n3 : Int) {w : World} (_ : (Lit.float .f64 t).wf = true) (_ : (Lit.int .i64 s).wf = true) (_ : (Lit.int .i64 n).wf = true) (_ : (Lit.float .f64 t2).wf = true) (_ : (Lit.int .i64 s2).wf = true) (_ : (Lit.int .i64 n2).wf = true) (_ : (Lit.float .f64 t3).wf = true) (_ : (Lit.int .i64 s3).wf = true) (_ : (Lit.int .i64 n3).wf = true) :
    Calls Try.prog 8 #[.agg #[.float .f64 t, .int .i64 s, .int .i64 n], .agg #[.float .f64 t2, .int .i64 s2, .int .i64 n2], .agg #[.float .f64 t3, .int .i64 s3, .int .i64 n3]] w fun e w' => e = .returned (.bool true) ∧ Below w.heap.size w w' := by
  have hx := range t t2 s n s2 n2
  have hy := range t2 t3 s2 n2 s3 n3
  obtain ⟨p1, p2, p3⟩ := through t t2 t3 s n s2 n2 s3 n3
  refine walk t s n t2 s2 n2 t3 s3 n3 (cmpS t t2 s n s2 n2) (cmpS t2 t3 s2 n2 s3 n3) (cmpS t t3 s n s3 n3) w ⟨fun w => compare39_calls _ _ _ _ _ _ w⟩ ⟨fun w => compare39_calls _ _ _ _ _ _ w⟩ ⟨fun w => compare39_calls _ _ _ _ _ _ w⟩
    ⟨fun w => by have h := compare39_calls t t s n s n w; rw [self0] at h; exact h⟩ ⟨fun w => by have h := compare39_calls t2 t s2 n2 s n w; rw [turned] at h; exact h⟩ (by omega) (by omega) ?_
  omega

end Go.Proofs.Ytlbjcdfognofgaa.OrdersS
