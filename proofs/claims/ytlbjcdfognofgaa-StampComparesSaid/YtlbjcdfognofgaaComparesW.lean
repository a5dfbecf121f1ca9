/- The walk of StampCompares: times and stamps stand to each other as the reference says. -/
import Derived.Test.YtlbjcdfognofgaaStampD
import Derived.Deep.DrawnRows
import Derived.Deep.RegionHeld3
namespace Go.Proofs.Ytlbjcdfognofgaa.ComparesW
open Go.RowKit Go.Proofs.YtlbjcdfognofgaaW.PrintWords Go.Proofs.YtlbjcdfognofgaaW.PrintLast Go.Proofs.YtlbjcdfognofgaaW.PrintMore Go.Proofs.Ytlbjcdfognofgaa.Be Go.Proofs.Ytlbjcdfognofgaa.Fl Go.Proofs.Ytlbjcdfognofgaa.StampA Go.Proofs.Ytlbjcdfognofgaa.StampB Go.Proofs.Ytlbjcdfognofgaa.StampC Go.Proofs.Ytlbjcdfognofgaa.StampD
attribute [local go_sem ↓] Go.wp_at_zero Go.wp_at_succ

set_option maxRecDepth 100000 in
set_option maxHeartbeats 4000000 in
theorem law (t : Nat) (s n : Int) (t2 : Nat) (s2 n2 : Int) {w : World} (_ : (Lit.float .f64 t).wf = true) (_ : (Lit.int .i64 s).wf = true) (_ : (Lit.int .i64 n).wf = true) (_ : (Lit.float .f64 t2).wf = true) (_ : (Lit.int .i64 s2).wf = true) (_ : (Lit.int .i64 n2).wf = true) :
    Calls Try.prog 7 #[.agg #[.float .f64 t, .int .i64 s, .int .i64 n], .agg #[.float .f64 t2, .int .i64 s2, .int .i64 n2]] w fun e w' => e = .returned (.bool true) ∧ Below w.heap.size w w' := by
  have hu2 := Try.underlying42
  have HB := Aside0.mk (Below.refl w.heap.size w)
  go_enter Try.func7, Try.ntmps7
  go_wp2_with fail
  go_region_held3 (fun w' => w'.cell? ⟨w.heap.size, 0, none⟩ = some (.float .f64 t) ∧ w'.cell? ⟨w.heap.size, 1, none⟩ = some (.int .i64 s) ∧ w'.cell? ⟨w.heap.size, 2, none⟩ = some (.int .i64 n) ∧ w'.cell? ⟨w.heap.size + 1, 0, none⟩ = some (.float .f64 t2) ∧ w'.cell? ⟨w.heap.size + 1, 1, none⟩ = some (.int .i64 s2) ∧ w'.cell? ⟨w.heap.size + 1, 2, none⟩ = some (.int .i64 n2) ∧ w.heap.size + 1 < w'.heap.size)
    (refine ⟨?_, ?_, ?_, ?_, ?_, ?_, ?_⟩ <;> first | assumption | (rw [hcA _ _ (by first | assumption | (simp; done) | (simp; omega) | omega)]; first | assumption | (go_simp; done) | (simp; done)) | (have hs := hbA.size; simp at hs ⊢; omega) | (rw [hcB _ _ (by first | assumption | (simp; done) | (simp; omega) | omega)]; first | assumption | (go_simp; done) | (simp; done)) | (have hs := hbB.size; simp at hs ⊢; omega) | (rw [hcC _ _ (by first | assumption | (simp; done) | (simp; omega) | omega)]; first | assumption | (go_simp; done) | (simp; done)) | (have hs := hbC.size; simp at hs ⊢; omega) | (go_keep; done))
    (first | (go_at_call 35; (with_reducible refine (awake_calls _).mono ?_); rintro e wA ⟨rfl, hbA⟩; have hcA := bcell hbA; have nb := Aside0.mk (below_step (by repeat (first | (with_reducible first | exact HB.out | apply below_alloc | apply pw_below_drewN | apply below_drew1) | exact HB.out)) hbA); clear HB; have HB := nb; clear nb) | (go_at_call 37; (with_reducible refine (times37_calls _ _ _).mono ?_); rintro e w1 ⟨rfl, rfl⟩) | (go_at_call 38; (with_reducible refine (times38_calls _ _ _).mono ?_); rintro e w1 ⟨rfl, rfl⟩) | (go_at_call 39; (with_reducible refine (compare39_calls _ _ _ _ _ _ _).mono ?_); rintro e wB ⟨rfl, hbB⟩; have hcB := bcell hbB; have nb := Aside0.mk (below_step (by repeat (first | (with_reducible first | exact HB.out | apply below_alloc | apply pw_below_drewN | apply below_drew1) | exact HB.out)) hbB); clear HB; have HB := nb; clear nb) | (go_at_call 40; (with_reducible refine (compare40_calls _ _ _ _ _ _ _).mono ?_); rintro e wC ⟨rfl, hbC⟩; have hcC := bcell hbC; have nb := Aside0.mk (below_step (by repeat (first | (with_reducible first | exact HB.out | apply below_alloc | apply pw_below_drewN | apply below_drew1) | exact HB.out)) hbC); clear HB; have HB := nb; clear nb))
  go_wp2_with fail
  go_ret
  exact ⟨rfl, HB.out⟩

end Go.Proofs.Ytlbjcdfognofgaa.ComparesW
