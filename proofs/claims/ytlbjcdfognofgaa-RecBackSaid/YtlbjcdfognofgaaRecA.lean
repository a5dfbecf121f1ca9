/- Events: may they be; their bytes and keys. -/
import Derived.Test.YtlbjcdfognofgaaWk
import Derived.Test.YtlbjcdfognofgaaStampQ
import Derived.Test.YtlbjcdfognofgaaPRecStatesx1
import Derived.Deep.DrawnRows
import Derived.Deep.RegionHeld3
namespace Go.Proofs.Ytlbjcdfognofgaa.RecA
open Go.RowKit Go.Proofs.YtlbjcdfognofgaaW.PrintWords Go.Proofs.YtlbjcdfognofgaaW.PrintLast Go.Proofs.YtlbjcdfognofgaaW.PrintMore Go.Proofs.Ytlbjcdfognofgaa.Be Go.Proofs.Ytlbjcdfognofgaa.Fl Go.Proofs.Ytlbjcdfognofgaa.StampA Go.Proofs.Ytlbjcdfognofgaa.StampB Go.Proofs.Ytlbjcdfognofgaa.StampC Go.Proofs.Ytlbjcdfognofgaa.StampD Go.Proofs.Ytlbjcdfognofgaa.StampK Go.Proofs.Ytlbjcdfognofgaa.SRec Go.Proofs.Ytlbjcdfognofgaa.StampQ Go.Proofs.Ytlbjcdfognofgaa.BytesW Go.Proofs.Ytlbjcdfognofgaa.Wk
attribute [local go_sem ↓] Go.wp_at_zero Go.wp_at_succ

attribute [local go_sem] run_store_float
set_option linter.unusedVariables false

/-- May an event be? -/
def rightB (t : Nat) (s n d : Int) : Bool := !nanb t && decide (-1 ≤ s) && decide (s < 6) && decide (0 ≤ n) && decide (n ≤ 1099511627776) && decide (0 ≤ d) && decide (d < 6)

theorem rightB_true {t : Nat} {s n d : Int} (h : rightB t s n d = true) : ¬ isNan t ∧ (-1 ≤ s ∧ s < 6) ∧ (0 ≤ n ∧ n ≤ 1099511627776) ∧ 0 ≤ d ∧ d < 6 := by
  simp only [rightB, Bool.and_eq_true, decide_eq_true_eq, Bool.not_eq_true'] at h
  obtain ⟨⟨⟨⟨⟨⟨h1, h2⟩, h3⟩, h4⟩, h5⟩, h6⟩, h7⟩ := h
  exact ⟨of_decide_eq_false h1, ⟨h2, h3⟩, ⟨h4, h5⟩, h6, h7⟩

set_option maxRecDepth 100000 in
set_option maxHeartbeats 4000000 in
theorem right_calls (t : Nat) (s n d p : Int) (w : World) :
    Calls Try.prog 101 #[.agg #[.float .f64 t, .int .i64 s, .int .i64 n, .int .i64 d, .int .i64 p]] w fun e w' => e = .returned (.bool (rightB t s n d)) ∧ Below w.heap.size w w' := by
  have hu2 := Try.underlying42
  have hu3 := Try.underlying68
  have HB := Aside0.mk (Below.refl w.heap.size w)
  have hr := isNaN_calls t
  have hnn : rightB t s n d = (!nanb t && decide (-1 ≤ s) && decide (s < 6) && decide (0 ≤ n) && decide (n ≤ 1099511627776) && decide (0 ≤ d) && decide (d < 6)) := rfl
  rw [hnn]
  clear hnn
  have HR := Aside0.mk hr
  clear hr
  generalize nanb t = b1 at *
  generalize h2 : decide (-1 ≤ s) = b2 at *
  generalize h3 : decide (s < 6) = b3 at *
  generalize h4 : decide (0 ≤ n) = b4 at *
  generalize h5 : decide (n ≤ 1099511627776) = b5 at *
  generalize h6 : decide (0 ≤ d) = b6 at *
  generalize h7 : decide (d < 6) = b7 at *
  rcases b1 with _ | _
  · rcases b2 with _ | _
    · (go_enter Try.func101, Try.ntmps101; go_wp2_with (go_at_call 83; (with_reducible refine (HR.out _).mono ?_); rintro e w1 ⟨rfl, rfl⟩); go_ret; exact ⟨by first | rfl | simp, bel⟩)
    · rcases b3 with _ | _
      · (go_enter Try.func101, Try.ntmps101; go_wp2_with (go_at_call 83; (with_reducible refine (HR.out _).mono ?_); rintro e w1 ⟨rfl, rfl⟩); go_ret; exact ⟨by first | rfl | simp, bel⟩)
      · rcases b4 with _ | _
        · (go_enter Try.func101, Try.ntmps101; go_wp2_with (go_at_call 83; (with_reducible refine (HR.out _).mono ?_); rintro e w1 ⟨rfl, rfl⟩); go_ret; exact ⟨by first | rfl | simp, bel⟩)
        · rcases b5 with _ | _
          · (go_enter Try.func101, Try.ntmps101; go_wp2_with (go_at_call 83; (with_reducible refine (HR.out _).mono ?_); rintro e w1 ⟨rfl, rfl⟩); go_ret; exact ⟨by first | rfl | simp, bel⟩)
          · rcases b6 with _ | _
            · (go_enter Try.func101, Try.ntmps101; go_wp2_with (go_at_call 83; (with_reducible refine (HR.out _).mono ?_); rintro e w1 ⟨rfl, rfl⟩); go_ret; exact ⟨by first | rfl | simp, bel⟩)
            · rcases b7 with _ | _
              · (go_enter Try.func101, Try.ntmps101; go_wp2_with (go_at_call 83; (with_reducible refine (HR.out _).mono ?_); rintro e w1 ⟨rfl, rfl⟩); go_ret; exact ⟨by first | rfl | simp, bel⟩)
              · (go_enter Try.func101, Try.ntmps101; go_wp2_with (go_at_call 83; (with_reducible refine (HR.out _).mono ?_); rintro e w1 ⟨rfl, rfl⟩); go_ret; exact ⟨by first | rfl | simp, bel⟩)
  · (go_enter Try.func101, Try.ntmps101; go_wp2_with (go_at_call 83; (with_reducible refine (HR.out _).mono ?_); rintro e w1 ⟨rfl, rfl⟩); go_ret; exact ⟨by first | rfl | simp, bel⟩)


theorem one_calls (a : Int) (h : 0 ≤ a ∧ a ≤ 255) (w : World) : Calls Try.prog 93 #[.int .i64 a] w fun e w' => e = .returned (.string (strOfNums [a])) ∧ Below w.heap.size w w' :=
  PRecStates.rec_one.calls a _ w (by rw [PRecStates.rec_one.f, show a % 256 = a by omega])

set_option maxRecDepth 100000 in
set_option maxHeartbeats 2000000 in
theorem time_walk (t : Nat) (s n d p : Int) (k : ByteArray) (w : World) (hk : 8 ≤ k.size) (CK : Aside0 (Gives 67 #[.agg #[.float .f64 t, .int .i64 s, .int .i64 n]] (.tuple #[.string k, .int .i64 0]))) :
    Calls Try.prog 102 #[.agg #[.float .f64 t, .int .i64 s, .int .i64 n, .int .i64 d, .int .i64 p]] w fun e w' => e = .returned (.string (k.extract 0 8)) ∧ Below w.heap.size w w' := by
  have hu2 := Try.underlying42
  have hu3 := Try.underlying68
  have e1 := fun W : World => Go.run_slice_string_h (P := Try.prog) W 9 k Try.underlying9 .i64 8 (by omega) (by omega)
  clear hk
  have HB := Aside0.mk (Below.refl w.heap.size w)
  go_enter Try.func102, Try.ntmps102
  go_wp2_with (go_at_call 67; (with_reducible refine (CK.out _).mono ?_); rintro e w1 ⟨rfl, hb⟩; have nb := Aside0.mk (below_step bel hb); clear HB hb; have HB := nb; clear nb)
  go_ret
  exact ⟨rfl, HB.out⟩

theorem time_calls (t : Nat) (s n d p : Int) (ht : t < 18446744073709551616) (hs : -9223372036854775808 ≤ s ∧ s < 9223372036854775808) (hn : -9223372036854775808 ≤ n ∧ n < 9223372036854775808) (h : ¬ isNan t) (w : World) :
    Calls Try.prog 102 #[.agg #[.float .f64 t, .int .i64 s, .int .i64 n, .int .i64 d, .int .i64 p]] w fun e w' => e = .returned (.string (strOfNums (be8 (kb (norm t))))) ∧ Below w.heap.size w w' := by
  have e1 : keyS t s n = (strOfNums (be8 (kb (norm t)) ++ be8 (s + 9223372036854775808) ++ be8 (n + 9223372036854775808)), 0) := by rw [keyS, if_neg h, key_bytes]
  have g := time_walk t s n d p (keyS t s n).1 w (by rw [e1]; show 8 ≤ (strOfNums _).size; rw [size_strOfNums]; simp [be8_length]) ⟨fun w => by
    have g := key67_calls t s n ht hs hn w
    rw [show (keyS t s n).2 = 0 by rw [e1]] at g
    exact g⟩
  have e2 : (keyS t s n).1.extract 0 8 = strOfNums (be8 (kb (norm t))) := by
    rw [e1]
    show (strOfNums _).extract 0 8 = _
    rw [extract_bn, bn_strOfNums _ (key_range _ _ _), List.append_assoc, List.drop_zero, List.take_append_of_le_length (by simp [be8_length]), List.take_of_length_le (by simp [be8_length])]
  rw [e2] at g
  exact g

set_option maxRecDepth 100000 in
set_option maxHeartbeats 4000000 in
theorem key_ok (t : Nat) (s n d p : Int) (A B1 B2 C1 C2 : ByteArray) (w : World) (CR : Aside0 (Gives 101 #[.agg #[.float .f64 t, .int .i64 s, .int .i64 n, .int .i64 d, .int .i64 p]] (.bool true)))
    (CT : Aside0 (Gives 102 #[.agg #[.float .f64 t, .int .i64 s, .int .i64 n, .int .i64 d, .int .i64 p]] (.string A))) (CO : Aside0 (Gives 93 #[.int .i64 (s + 1)] (.string B1))) (CN : Aside0 (Gives 25 #[.int .i64 n] (.string C1))) (CP : Aside0 (Gives 25 #[.int .i64 p] (.string C2))) (hw : IntKind.i64.wrap (s + 1) = s + 1) (za : A.size ≤ 8) (zb : B1.size ≤ 8) (zb2 : B2.size ≤ 8) (zc : C1.size ≤ 8) (zc2 : C2.size ≤ 8) :
    Calls Try.prog 73 #[.agg #[.float .f64 t, .int .i64 s, .int .i64 n, .int .i64 d, .int .i64 p]] w fun e w' => e = .returned (.tuple #[.string (A ++ B1 ++ C1 ++ C2), .int .i64 0]) ∧ Below w.heap.size w w' := by
  have hu2 := Try.underlying42
  have hu3 := Try.underlying68
  have s1 : ¬ 9223372036854775807 < A.size + B1.size := by omega
  have s2 : ¬ 9223372036854775807 < A.size + B1.size + C1.size := by omega
  have s3 : ¬ 9223372036854775807 < A.size + B1.size + C1.size + C2.size := by omega
  clear za zb zb2 zc zc2
  have HB := Aside0.mk (Below.refl w.heap.size w)
  go_enter Try.func73, Try.ntmps73
  go_wp2_with (go_at_call 101; (with_reducible refine (CR.out _).mono ?_); rintro e w1 ⟨rfl, hb⟩; have nb := Aside0.mk (below_step bel hb); clear HB; have HB := nb; clear nb; have hc := StampC.bcell hb; have p0 : w1.cell? ⟨w.heap.size, 0, none⟩ = some (.float .f64 t) := (crr hc); have p1 : w1.cell? ⟨w.heap.size, 1, none⟩ = some (.int .i64 s) := (crr hc); have p2 : w1.cell? ⟨w.heap.size, 2, none⟩ = some (.int .i64 n) := (crr hc); have p3 : w1.cell? ⟨w.heap.size, 3, none⟩ = some (.int .i64 d) := (crr hc); have p4 : w1.cell? ⟨w.heap.size, 4, none⟩ = some (.int .i64 p) := (crr hc); have hg1 : w.heap.size < w1.heap.size := (by have hs := hb.size; simp at hs ⊢; omega); clear hc hb; (try clear hg); have hg := hg1; clear hg1; (try clear c0); have c0 := p0; clear p0; (try clear c1); have c1 := p1; clear p1; (try clear c2); have c2 := p2; clear p2; (try clear c3); have c3 := p3; clear p3; (try clear c4); have c4 := p4; clear p4)
  go_region_held3 (fun w' => w'.cell? ⟨w.heap.size, 0, none⟩ = some (.float .f64 t) ∧ w'.cell? ⟨w.heap.size, 1, none⟩ = some (.int .i64 s) ∧ w'.cell? ⟨w.heap.size, 2, none⟩ = some (.int .i64 n) ∧ w'.cell? ⟨w.heap.size, 3, none⟩ = some (.int .i64 d) ∧ w'.cell? ⟨w.heap.size, 4, none⟩ = some (.int .i64 p) ∧ w.heap.size < w'.heap.size)
    (refine ⟨?_, ?_, ?_, ?_, ?_, ?_⟩ <;> first | assumption | (rw [hcT _ _ (by first | assumption | (simp; done) | (simp; omega) | omega)]; first | assumption | (go_simp; done) | (simp; done)) | (have hs := hbT.size; simp at hs ⊢; omega) | (rw [hcO _ _ (by first | assumption | (simp; done) | (simp; omega) | omega)]; first | assumption | (go_simp; done) | (simp; done)) | (have hs := hbO.size; simp at hs ⊢; omega) | (rw [hcN _ _ (by first | assumption | (simp; done) | (simp; omega) | omega)]; first | assumption | (go_simp; done) | (simp; done)) | (have hs := hbN.size; simp at hs ⊢; omega) | (rw [hcP _ _ (by first | assumption | (simp; done) | (simp; omega) | omega)]; first | assumption | (go_simp; done) | (simp; done)) | (have hs := hbP.size; simp at hs ⊢; omega) | (go_keep; done) | (go_simp; done) | (simp; omega))
    (first | (go_at_call 102; (with_reducible refine (CT.out _).mono ?_); rintro e wT ⟨rfl, hbT⟩; have hcT := StampC.bcell hbT; have nb := Aside0.mk (below_step bel hbT); clear HB; have HB := nb; clear nb) | (go_at_call 93; (with_reducible refine (CO.out _).mono ?_); rintro e wO ⟨rfl, hbO⟩; have hcO := StampC.bcell hbO; have nb := Aside0.mk (below_step bel hbO); clear HB; have HB := nb; clear nb) | (go_at_call 25; (with_reducible refine (CN.out _).mono ?_); rintro e wN ⟨rfl, hbN⟩; have hcN := StampC.bcell hbN; have nb := Aside0.mk (below_step bel hbN); clear HB; have HB := nb; clear nb) | (go_at_call 25; (with_reducible refine (CP.out _).mono ?_); rintro e wP ⟨rfl, hbP⟩; have hcP := StampC.bcell hbP; have nb := Aside0.mk (below_step bel hbP); clear HB; have HB := nb; clear nb))
  go_wp2_with fail
  go_ret2
  exact ⟨rfl, HB.out⟩

set_option maxRecDepth 100000 in
set_option maxHeartbeats 2000000 in
theorem key_no (t : Nat) (s n d p : Int) (w : World) (CR : Aside0 (Gives 101 #[.agg #[.float .f64 t, .int .i64 s, .int .i64 n, .int .i64 d, .int .i64 p]] (.bool false))) :
    Calls Try.prog 73 #[.agg #[.float .f64 t, .int .i64 s, .int .i64 n, .int .i64 d, .int .i64 p]] w fun e w' => e = .returned (.tuple #[.string ⟨#[]⟩, .int .i64 2]) ∧ Below w.heap.size w w' := by
  have hu2 := Try.underlying42
  have hu3 := Try.underlying68
  have HB := Aside0.mk (Below.refl w.heap.size w)
  go_enter Try.func73, Try.ntmps73
  go_wp2_with (go_at_call 101; (with_reducible refine (CR.out _).mono ?_); rintro e w1 ⟨rfl, hb⟩; have nb := Aside0.mk (below_step bel hb); clear HB hb; have HB := nb; clear nb)
  go_ret2
  exact ⟨rfl, HB.out⟩

set_option maxRecDepth 100000 in
set_option maxHeartbeats 4000000 in
theorem put_ok (t : Nat) (s n d p : Int) (A B1 B2 C1 C2 : ByteArray) (w : World) (CR : Aside0 (Gives 101 #[.agg #[.float .f64 t, .int .i64 s, .int .i64 n, .int .i64 d, .int .i64 p]] (.bool true)))
    (CT : Aside0 (Gives 102 #[.agg #[.float .f64 t, .int .i64 s, .int .i64 n, .int .i64 d, .int .i64 p]] (.string A))) (CO : Aside0 (Gives 93 #[.int .i64 (s + 1)] (.string B1))) (CN : Aside0 (Gives 25 #[.int .i64 n] (.string C1))) (CD : Aside0 (Gives 93 #[.int .i64 d] (.string B2))) (CP : Aside0 (Gives 25 #[.int .i64 p] (.string C2))) (hw : IntKind.i64.wrap (s + 1) = s + 1) (za : A.size ≤ 8) (zb : B1.size ≤ 8) (zb2 : B2.size ≤ 8) (zc : C1.size ≤ 8) (zc2 : C2.size ≤ 8) :
    Calls Try.prog 58 #[.agg #[.float .f64 t, .int .i64 s, .int .i64 n, .int .i64 d, .int .i64 p]] w fun e w' => e = .returned (.tuple #[.string (A ++ B1 ++ C1 ++ B2 ++ C2), .int .i64 0]) ∧ Below w.heap.size w w' := by
  have hu2 := Try.underlying42
  have hu3 := Try.underlying68
  have s1 : ¬ 9223372036854775807 < A.size + B1.size := by omega
  have s2 : ¬ 9223372036854775807 < A.size + B1.size + C1.size := by omega
  have s3 : ¬ 9223372036854775807 < A.size + B1.size + C1.size + B2.size := by omega
  have s4 : ¬ 9223372036854775807 < A.size + B1.size + C1.size + B2.size + C2.size := by omega
  clear za zb zb2 zc zc2
  have HB := Aside0.mk (Below.refl w.heap.size w)
  go_enter Try.func58, Try.ntmps58
  go_wp2_with (go_at_call 101; (with_reducible refine (CR.out _).mono ?_); rintro e w1 ⟨rfl, hb⟩; have nb := Aside0.mk (below_step bel hb); clear HB; have HB := nb; clear nb; have hc := StampC.bcell hb; have p0 : w1.cell? ⟨w.heap.size, 0, none⟩ = some (.float .f64 t) := (crr hc); have p1 : w1.cell? ⟨w.heap.size, 1, none⟩ = some (.int .i64 s) := (crr hc); have p2 : w1.cell? ⟨w.heap.size, 2, none⟩ = some (.int .i64 n) := (crr hc); have p3 : w1.cell? ⟨w.heap.size, 3, none⟩ = some (.int .i64 d) := (crr hc); have p4 : w1.cell? ⟨w.heap.size, 4, none⟩ = some (.int .i64 p) := (crr hc); have hg1 : w.heap.size < w1.heap.size := (by have hs := hb.size; simp at hs ⊢; omega); clear hc hb; (try clear hg); have hg := hg1; clear hg1; (try clear c0); have c0 := p0; clear p0; (try clear c1); have c1 := p1; clear p1; (try clear c2); have c2 := p2; clear p2; (try clear c3); have c3 := p3; clear p3; (try clear c4); have c4 := p4; clear p4)
  go_region_held3 (fun w' => w'.cell? ⟨w.heap.size, 0, none⟩ = some (.float .f64 t) ∧ w'.cell? ⟨w.heap.size, 1, none⟩ = some (.int .i64 s) ∧ w'.cell? ⟨w.heap.size, 2, none⟩ = some (.int .i64 n) ∧ w'.cell? ⟨w.heap.size, 3, none⟩ = some (.int .i64 d) ∧ w'.cell? ⟨w.heap.size, 4, none⟩ = some (.int .i64 p) ∧ w.heap.size < w'.heap.size)
    (refine ⟨?_, ?_, ?_, ?_, ?_, ?_⟩ <;> first | assumption | (rw [hcT _ _ (by first | assumption | (simp; done) | (simp; omega) | omega)]; first | assumption | (go_simp; done) | (simp; done)) | (have hs := hbT.size; simp at hs ⊢; omega) | (rw [hcO _ _ (by first | assumption | (simp; done) | (simp; omega) | omega)]; first | assumption | (go_simp; done) | (simp; done)) | (have hs := hbO.size; simp at hs ⊢; omega) | (rw [hcN _ _ (by first | assumption | (simp; done) | (simp; omega) | omega)]; first | assumption | (go_simp; done) | (simp; done)) | (have hs := hbN.size; simp at hs ⊢; omega) | (rw [hcD _ _ (by first | assumption | (simp; done) | (simp; omega) | omega)]; first | assumption | (go_simp; done) | (simp; done)) | (have hs := hbD.size; simp at hs ⊢; omega) | (rw [hcP _ _ (by first | assumption | (simp; done) | (simp; omega) | omega)]; first | assumption | (go_simp; done) | (simp; done)) | (have hs := hbP.size; simp at hs ⊢; omega) | (go_keep; done) | (go_simp; done) | (simp; omega))
    (first | (go_at_call 102; (with_reducible refine (CT.out _).mono ?_); rintro e wT ⟨rfl, hbT⟩; have hcT := StampC.bcell hbT; have nb := Aside0.mk (below_step bel hbT); clear HB; have HB := nb; clear nb) | (go_at_call 93; (with_reducible refine (CO.out _).mono ?_); rintro e wO ⟨rfl, hbO⟩; have hcO := StampC.bcell hbO; have nb := Aside0.mk (below_step bel hbO); clear HB; have HB := nb; clear nb) | (go_at_call 25; (with_reducible refine (CN.out _).mono ?_); rintro e wN ⟨rfl, hbN⟩; have hcN := StampC.bcell hbN; have nb := Aside0.mk (below_step bel hbN); clear HB; have HB := nb; clear nb) | (go_at_call 93; (with_reducible refine (CD.out _).mono ?_); rintro e wD ⟨rfl, hbD⟩; have hcD := StampC.bcell hbD; have nb := Aside0.mk (below_step bel hbD); clear HB; have HB := nb; clear nb) | (go_at_call 25; (with_reducible refine (CP.out _).mono ?_); rintro e wP ⟨rfl, hbP⟩; have hcP := StampC.bcell hbP; have nb := Aside0.mk (below_step bel hbP); clear HB; have HB := nb; clear nb))
  go_wp2_with fail
  go_ret2
  exact ⟨rfl, HB.out⟩

set_option maxRecDepth 100000 in
set_option maxHeartbeats 2000000 in
theorem put_no (t : Nat) (s n d p : Int) (w : World) (CR : Aside0 (Gives 101 #[.agg #[.float .f64 t, .int .i64 s, .int .i64 n, .int .i64 d, .int .i64 p]] (.bool false))) :
    Calls Try.prog 58 #[.agg #[.float .f64 t, .int .i64 s, .int .i64 n, .int .i64 d, .int .i64 p]] w fun e w' => e = .returned (.tuple #[.string ⟨#[]⟩, .int .i64 2]) ∧ Below w.heap.size w w' := by
  have hu2 := Try.underlying42
  have hu3 := Try.underlying68
  have HB := Aside0.mk (Below.refl w.heap.size w)
  go_enter Try.func58, Try.ntmps58
  go_wp2_with (go_at_call 101; (with_reducible refine (CR.out _).mono ?_); rintro e w1 ⟨rfl, hb⟩; have nb := Aside0.mk (below_step bel hb); clear HB hb; have HB := nb; clear nb)
  go_ret2
  exact ⟨rfl, HB.out⟩


theorem wrap_next {s : Int} (h : -1 ≤ s ∧ s < 6) : IntKind.i64.wrap (s + 1) = s + 1 := by rw [IntKind.wrap_i64]; omega

/-- An event's bytes; a key's. -/
def evS (t : Nat) (s n d p : Int) : ByteArray := strOfNums (be8 (kb (norm t))) ++ strOfNums [s + 1] ++ strOfNums (be8 (n + 9223372036854775808)) ++ strOfNums [d] ++ strOfNums (be8 (p + 9223372036854775808))
def evK (t : Nat) (s n p : Int) : ByteArray := strOfNums (be8 (kb (norm t))) ++ strOfNums [s + 1] ++ strOfNums (be8 (n + 9223372036854775808)) ++ strOfNums (be8 (p + 9223372036854775808))
theorem z8 (k : Int) : (strOfNums (be8 k)).size ≤ 8 := by rw [size_strOfNums]; exact Nat.le_refl _
theorem z1 (k : Int) : (strOfNums [k]).size ≤ 8 := by rw [size_strOfNums]; exact (by decide : 1 ≤ 8)

theorem key_calls (t : Nat) (s n d p : Int) (ht : t < 18446744073709551616) (hp : -9223372036854775808 ≤ p ∧ p < 9223372036854775808) (w : World) :
    Calls Try.prog 73 #[.agg #[.float .f64 t, .int .i64 s, .int .i64 n, .int .i64 d, .int .i64 p]] w fun e w' => e = .returned (.tuple #[.string (if rightB t s n d then evK t s n p else ⟨#[]⟩), .int .i64 (if rightB t s n d then 0 else 2)]) ∧ Below w.heap.size w w' := by
  have CR := Aside0.mk (fun w => right_calls t s n d p w)
  by_cases h : rightB t s n d = true
  · obtain ⟨h1, h2, h3, h4⟩ := rightB_true h
    rw [h] at CR
    rw [if_pos h, if_pos h]
    exact key_ok t s n d p _ _ ⟨#[]⟩ _ _ w CR ⟨fun w => time_calls t s n d p ht (by omega) (by omega) h1 w⟩ ⟨fun w => one_calls _ (by omega) w⟩ ⟨fun w => I_calls n (by omega) w⟩ ⟨fun w => I_calls p hp w⟩ (wrap_next h2) (z8 _) (z1 _) (by decide) (z8 _) (z8 _)
  · rw [Bool.eq_false_iff.2 h] at CR
    rw [if_neg h, if_neg h]
    exact key_no t s n d p w CR

theorem put_calls (t : Nat) (s n d p : Int) (ht : t < 18446744073709551616) (hp : -9223372036854775808 ≤ p ∧ p < 9223372036854775808) (w : World) :
    Calls Try.prog 58 #[.agg #[.float .f64 t, .int .i64 s, .int .i64 n, .int .i64 d, .int .i64 p]] w fun e w' => e = .returned (.tuple #[.string (if rightB t s n d then evS t s n d p else ⟨#[]⟩), .int .i64 (if rightB t s n d then 0 else 2)]) ∧ Below w.heap.size w w' := by
  have CR := Aside0.mk (fun w => right_calls t s n d p w)
  by_cases h : rightB t s n d = true
  · obtain ⟨h1, h2, h3, h4⟩ := rightB_true h
    rw [h] at CR
    rw [if_pos h, if_pos h]
    exact put_ok t s n d p _ _ _ _ _ w CR ⟨fun w => time_calls t s n d p ht (by omega) (by omega) h1 w⟩ ⟨fun w => one_calls _ (by omega) w⟩ ⟨fun w => I_calls n (by omega) w⟩ ⟨fun w => one_calls d (by omega) w⟩ ⟨fun w => I_calls p hp w⟩ (wrap_next h2) (z8 _) (z1 _) (z1 _) (z8 _) (z8 _)
  · rw [Bool.eq_false_iff.2 h] at CR
    rw [if_neg h, if_neg h]
    exact put_no t s n d p w CR

set_option maxRecDepth 100000 in
set_option maxHeartbeats 2000000 in
theorem msg_true_ok (t : Nat) (s n d p : Int) (A : ByteArray) (w : World) (za : A.size ≤ 100) (CA : Aside0 (Gives 58 #[.agg #[.float .f64 t, .int .i64 s, .int .i64 n, .int .i64 d, .int .i64 p]] (.tuple #[.string A, .int .i64 0]))) :
    Calls Try.prog 59 #[.agg #[.float .f64 t, .int .i64 s, .int .i64 n, .int .i64 d, .int .i64 p, .bool true]] w fun e w' => e = .returned (.tuple #[.string (strOfNums [1] ++ A), .int .i64 0]) ∧ Below w.heap.size w w' := by
  have hu2 := Try.underlying42
  have hu3 := Try.underlying68
  have hu4 := Try.underlying77
  have s1 : ¬ 9223372036854775807 < (strOfNums [1]).size + A.size := by have := z1 1; omega
  clear za
  have HB := Aside0.mk (Below.refl w.heap.size w)
  go_enter Try.func59, Try.ntmps59
  go_wp2_with (first | (go_at_call 58; (with_reducible refine (CA.out _).mono ?_); rintro e w1 ⟨rfl, hb⟩; have nb := Aside0.mk (below_step bel hb); clear HB; have HB := nb; clear nb; have hc := StampC.bcell hb; have p0 : w1.cell? ⟨w.heap.size, 0, none⟩ = some (.float .f64 t) := (crr hc); have p1 : w1.cell? ⟨w.heap.size, 1, none⟩ = some (.int .i64 s) := (crr hc); have p2 : w1.cell? ⟨w.heap.size, 2, none⟩ = some (.int .i64 n) := (crr hc); have p3 : w1.cell? ⟨w.heap.size, 3, none⟩ = some (.int .i64 d) := (crr hc); have p4 : w1.cell? ⟨w.heap.size, 4, none⟩ = some (.int .i64 p) := (crr hc); have p5 : w1.cell? ⟨w.heap.size, 5, none⟩ = some (.bool true) := (crr hc); have hg1 : w.heap.size < w1.heap.size := (by have hs := hb.size; simp at hs ⊢; omega); clear hc hb; (try clear hg); have hg := hg1; clear hg1; (try clear c0); have c0 := p0; clear p0; (try clear c1); have c1 := p1; clear p1; (try clear c2); have c2 := p2; clear p2; (try clear c3); have c3 := p3; clear p3; (try clear c4); have c4 := p4; clear p4; (try clear c5); have c5 := p5; clear p5) | (go_at_call 93; (with_reducible refine (one_calls _ (by decide) _).mono ?_); rintro e w1 ⟨rfl, hb⟩; have nb := Aside0.mk (below_step bel hb); clear HB hb; have HB := nb; clear nb))
  go_ret2
  exact ⟨rfl, HB.out⟩

set_option maxRecDepth 100000 in
set_option maxHeartbeats 2000000 in
theorem msg_true_no (t : Nat) (s n d p : Int) (A : ByteArray) (w : World) (za : A.size ≤ 100) (CA : Aside0 (Gives 58 #[.agg #[.float .f64 t, .int .i64 s, .int .i64 n, .int .i64 d, .int .i64 p]] (.tuple #[.string A, .int .i64 2]))) :
    Calls Try.prog 59 #[.agg #[.float .f64 t, .int .i64 s, .int .i64 n, .int .i64 d, .int .i64 p, .bool true]] w fun e w' => e = .returned (.tuple #[.string ⟨#[]⟩, .int .i64 2]) ∧ Below w.heap.size w w' := by
  have hu2 := Try.underlying42
  have hu3 := Try.underlying68
  have hu4 := Try.underlying77
  have s1 : ¬ 9223372036854775807 < (strOfNums [1]).size + A.size := by have := z1 1; omega
  clear za
  have HB := Aside0.mk (Below.refl w.heap.size w)
  go_enter Try.func59, Try.ntmps59
  go_wp2_with (first | (go_at_call 58; (with_reducible refine (CA.out _).mono ?_); rintro e w1 ⟨rfl, hb⟩; have nb := Aside0.mk (below_step bel hb); clear HB; have HB := nb; clear nb; have hc := StampC.bcell hb; have p0 : w1.cell? ⟨w.heap.size, 0, none⟩ = some (.float .f64 t) := (crr hc); have p1 : w1.cell? ⟨w.heap.size, 1, none⟩ = some (.int .i64 s) := (crr hc); have p2 : w1.cell? ⟨w.heap.size, 2, none⟩ = some (.int .i64 n) := (crr hc); have p3 : w1.cell? ⟨w.heap.size, 3, none⟩ = some (.int .i64 d) := (crr hc); have p4 : w1.cell? ⟨w.heap.size, 4, none⟩ = some (.int .i64 p) := (crr hc); have p5 : w1.cell? ⟨w.heap.size, 5, none⟩ = some (.bool true) := (crr hc); have hg1 : w.heap.size < w1.heap.size := (by have hs := hb.size; simp at hs ⊢; omega); clear hc hb; (try clear hg); have hg := hg1; clear hg1; (try clear c0); have c0 := p0; clear p0; (try clear c1); have c1 := p1; clear p1; (try clear c2); have c2 := p2; clear p2; (try clear c3); have c3 := p3; clear p3; (try clear c4); have c4 := p4; clear p4; (try clear c5); have c5 := p5; clear p5) | (go_at_call 93; (with_reducible refine (one_calls _ (by decide) _).mono ?_); rintro e w1 ⟨rfl, hb⟩; have nb := Aside0.mk (below_step bel hb); clear HB hb; have HB := nb; clear nb))
  go_ret2
  exact ⟨rfl, HB.out⟩

set_option maxRecDepth 100000 in
set_option maxHeartbeats 2000000 in
theorem msg_false_ok (t : Nat) (s n d p : Int) (A : ByteArray) (w : World) (za : A.size ≤ 100) (CA : Aside0 (Gives 58 #[.agg #[.float .f64 t, .int .i64 s, .int .i64 n, .int .i64 d, .int .i64 p]] (.tuple #[.string A, .int .i64 0]))) :
    Calls Try.prog 59 #[.agg #[.float .f64 t, .int .i64 s, .int .i64 n, .int .i64 d, .int .i64 p, .bool false]] w fun e w' => e = .returned (.tuple #[.string (strOfNums [0] ++ A), .int .i64 0]) ∧ Below w.heap.size w w' := by
  have hu2 := Try.underlying42
  have hu3 := Try.underlying68
  have hu4 := Try.underlying77
  have s1 : ¬ 9223372036854775807 < (strOfNums [0]).size + A.size := by have := z1 0; omega
  clear za
  have HB := Aside0.mk (Below.refl w.heap.size w)
  go_enter Try.func59, Try.ntmps59
  go_wp2_with (first | (go_at_call 58; (with_reducible refine (CA.out _).mono ?_); rintro e w1 ⟨rfl, hb⟩; have nb := Aside0.mk (below_step bel hb); clear HB; have HB := nb; clear nb; have hc := StampC.bcell hb; have p0 : w1.cell? ⟨w.heap.size, 0, none⟩ = some (.float .f64 t) := (crr hc); have p1 : w1.cell? ⟨w.heap.size, 1, none⟩ = some (.int .i64 s) := (crr hc); have p2 : w1.cell? ⟨w.heap.size, 2, none⟩ = some (.int .i64 n) := (crr hc); have p3 : w1.cell? ⟨w.heap.size, 3, none⟩ = some (.int .i64 d) := (crr hc); have p4 : w1.cell? ⟨w.heap.size, 4, none⟩ = some (.int .i64 p) := (crr hc); have p5 : w1.cell? ⟨w.heap.size, 5, none⟩ = some (.bool false) := (crr hc); have hg1 : w.heap.size < w1.heap.size := (by have hs := hb.size; simp at hs ⊢; omega); clear hc hb; (try clear hg); have hg := hg1; clear hg1; (try clear c0); have c0 := p0; clear p0; (try clear c1); have c1 := p1; clear p1; (try clear c2); have c2 := p2; clear p2; (try clear c3); have c3 := p3; clear p3; (try clear c4); have c4 := p4; clear p4; (try clear c5); have c5 := p5; clear p5) | (go_at_call 93; (with_reducible refine (one_calls _ (by decide) _).mono ?_); rintro e w1 ⟨rfl, hb⟩; have nb := Aside0.mk (below_step bel hb); clear HB hb; have HB := nb; clear nb))
  go_ret2
  exact ⟨rfl, HB.out⟩

set_option maxRecDepth 100000 in
set_option maxHeartbeats 2000000 in
theorem msg_false_no (t : Nat) (s n d p : Int) (A : ByteArray) (w : World) (za : A.size ≤ 100) (CA : Aside0 (Gives 58 #[.agg #[.float .f64 t, .int .i64 s, .int .i64 n, .int .i64 d, .int .i64 p]] (.tuple #[.string A, .int .i64 2]))) :
    Calls Try.prog 59 #[.agg #[.float .f64 t, .int .i64 s, .int .i64 n, .int .i64 d, .int .i64 p, .bool false]] w fun e w' => e = .returned (.tuple #[.string ⟨#[]⟩, .int .i64 2]) ∧ Below w.heap.size w w' := by
  have hu2 := Try.underlying42
  have hu3 := Try.underlying68
  have hu4 := Try.underlying77
  have s1 : ¬ 9223372036854775807 < (strOfNums [0]).size + A.size := by have := z1 0; omega
  clear za
  have HB := Aside0.mk (Below.refl w.heap.size w)
  go_enter Try.func59, Try.ntmps59
  go_wp2_with (first | (go_at_call 58; (with_reducible refine (CA.out _).mono ?_); rintro e w1 ⟨rfl, hb⟩; have nb := Aside0.mk (below_step bel hb); clear HB; have HB := nb; clear nb; have hc := StampC.bcell hb; have p0 : w1.cell? ⟨w.heap.size, 0, none⟩ = some (.float .f64 t) := (crr hc); have p1 : w1.cell? ⟨w.heap.size, 1, none⟩ = some (.int .i64 s) := (crr hc); have p2 : w1.cell? ⟨w.heap.size, 2, none⟩ = some (.int .i64 n) := (crr hc); have p3 : w1.cell? ⟨w.heap.size, 3, none⟩ = some (.int .i64 d) := (crr hc); have p4 : w1.cell? ⟨w.heap.size, 4, none⟩ = some (.int .i64 p) := (crr hc); have p5 : w1.cell? ⟨w.heap.size, 5, none⟩ = some (.bool false) := (crr hc); have hg1 : w.heap.size < w1.heap.size := (by have hs := hb.size; simp at hs ⊢; omega); clear hc hb; (try clear hg); have hg := hg1; clear hg1; (try clear c0); have c0 := p0; clear p0; (try clear c1); have c1 := p1; clear p1; (try clear c2); have c2 := p2; clear p2; (try clear c3); have c3 := p3; clear p3; (try clear c4); have c4 := p4; clear p4; (try clear c5); have c5 := p5; clear p5) | (go_at_call 93; (with_reducible refine (one_calls _ (by decide) _).mono ?_); rintro e w1 ⟨rfl, hb⟩; have nb := Aside0.mk (below_step bel hb); clear HB hb; have HB := nb; clear nb))
  go_ret2
  exact ⟨rfl, HB.out⟩

end Go.Proofs.Ytlbjcdfognofgaa.RecA
