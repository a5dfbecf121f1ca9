/- A stamp's key, laid: the package's Key and the reference's. -/
import Derived.Test.YtlbjcdfognofgaaWk
import Derived.Test.YtlbjcdfognofgaaStampD
import Derived.Test.YtlbjcdfognofgaaSRec
import Derived.Deep.DrawnRows
import Derived.Deep.RegionHeld3
namespace Go.Proofs.Ytlbjcdfognofgaa.StampK
open Go.RowKit Go.Proofs.YtlbjcdfognofgaaW.PrintWords Go.Proofs.YtlbjcdfognofgaaW.PrintLast Go.Proofs.YtlbjcdfognofgaaW.PrintMore Go.Proofs.Ytlbjcdfognofgaa.Be Go.Proofs.Ytlbjcdfognofgaa.Fl Go.Proofs.Ytlbjcdfognofgaa.StampA Go.Proofs.Ytlbjcdfognofgaa.StampB Go.Proofs.Ytlbjcdfognofgaa.StampC Go.Proofs.Ytlbjcdfognofgaa.StampD Go.Proofs.Ytlbjcdfognofgaa.SRec Go.Proofs.Ytlbjcdfognofgaa.Wk
attribute [local go_sem ↓] Go.wp_at_zero Go.wp_at_succ
set_option linter.unusedVariables false

/-- The bits of a key's first eight bytes: of lesser times they are less. -/
def kb (x : Nat) : Int := if 9223372036854775808 ≤ x then 18446744073709551615 - (x : Int) else (x : Int) + 9223372036854775808

theorem kb_range {x : Nat} (h : x < 18446744073709551616) : 0 ≤ kb x ∧ kb x < 18446744073709551616 := by
  unfold kb; split <;> omega

theorem or_top {x : Nat} (h : x < 9223372036854775808) : bits .or .u64 (x : Int) 9223372036854775808 = kb x := by
  have e := u64_or_nat x 9223372036854775808 (by omega) (by omega)
  rw [show ((9223372036854775808 : Nat) : Int) = 9223372036854775808 from rfl] at e
  rw [e, kb, if_neg (by omega), Nat.or_comm, nat_join 63 9223372036854775808 x (by decide) (by simpa using h)]
  omega

theorem xor_top {x : Nat} (h : x < 18446744073709551616) (hl : 9223372036854775808 ≤ x) : bits .xor .u64 IntKind.u64.max (x : Int) = kb x := by
  have e := bits_xor_u64_nat 18446744073709551615 x (by omega) h
  rw [show (IntKind.u64.max : Int) = ((18446744073709551615 : Nat) : Int) from by decide, e, kb, if_pos hl]
  have hb : 18446744073709551615 ^^^ x = 18446744073709551615 - x := by
    have := BitVec.toNat_not (x := BitVec.ofNat 64 x)
    have h2 : (~~~ (BitVec.ofNat 64 x)) = BitVec.allOnes 64 ^^^ BitVec.ofNat 64 x := by rw [BitVec.not_def]
    rw [h2, BitVec.toNat_xor, BitVec.toNat_allOnes, BitVec.toNat_ofNat, Nat.mod_eq_of_lt (by omega)] at this
    exact this
  rw [hb]
  omega

theorem sub_top {x : Nat} (h : x < 18446744073709551616) (hl : 9223372036854775808 ≤ x) : IntKind.u64.wrap (18446744073709551615 - (x : Int)) = kb x := by
  rw [wrap_u64_in _ (by omega) (by omega), kb, if_pos hl]

theorem add_top {x : Nat} (h : x < 9223372036854775808) : IntKind.u64.wrap ((x : Int) + 9223372036854775808) = kb x := by
  rw [wrap_u64_in _ (by omega) (by omega), kb, if_neg (by omega)]

theorem norm_lt {t : Nat} (h : t < 18446744073709551616) : norm t < 18446744073709551616 := by
  unfold norm; split
  · omega
  · split <;> omega

theorem norm_val {s : Nat} (h : ¬ isNan s) : sval (norm s) = sval s ∧ ¬ isNan (norm s) := by
  unfold norm
  rw [if_neg h]
  by_cases h0 : sval s = 0
  · rw [if_pos h0, h0]; exact ⟨sval_zero, not_nan_zero⟩
  · rw [if_neg h0]; exact ⟨rfl, h⟩

theorem sgn_low {x : Nat} (h : x < 18446744073709551616) : sgn x = decide (9223372036854775808 ≤ x) := by
  unfold sgn
  rw [Bool.eq_iff_iff, beq_iff_eq, decide_eq_true_iff]
  omega

theorem low_neg {t : Nat} (h : t < 18446744073709551616) (hn : ¬ isNan t) (hl : 9223372036854775808 ≤ norm t) : sval (norm t) < 0 := by
  have h1 : sval (norm t) ≠ 0 := by
    intro h0
    rw [(norm_val hn).1] at h0
    rw [norm, if_neg hn, if_pos h0] at hl
    omega
  unfold sval at h1 ⊢
  rw [sgn_low (norm_lt h), decide_eq_true hl] at h1 ⊢
  simp only [if_true] at h1 ⊢
  omega

theorem high_pos {x : Nat} (h : x < 9223372036854775808) : ¬ sval x < 0 := by
  unfold sval
  rw [sgn_low (by omega), decide_eq_false (by omega)]
  simp only [Bool.false_eq_true, if_false]
  omega

/-- A stamp's key; what is wrong. -/
def keyS (t : Nat) (s n : Int) : ByteArray × Int :=
  if isNan t then (⟨#[]⟩, 7) else (strOfNums (be8 (kb (norm t))) ++ strOfNums (be8 (s + 9223372036854775808)) ++ strOfNums (be8 (n + 9223372036854775808)), 0)

set_option maxRecDepth 100000 in
set_option maxHeartbeats 2000000 in
theorem key67_low (t x : Nat) (s n : Int) (a b c : ByteArray) (w : World) (hx : 9223372036854775808 ≤ x) 
    (C31 : Aside0 (∀ w, Calls Try.prog 31 #[.float .f64 t] w fun e w' => e = .returned (.tuple #[.float .f64 x, .int .i64 0]) ∧ w = w'))
    (CU : Aside0 (Gives 23 #[.int .u64 (bits .xor .u64 IntKind.u64.max (x : Int))] (.string a)))
    (CS : Aside0 (Gives 25 #[.int .i64 s] (.string b)))
    (CN : Aside0 (Gives 25 #[.int .i64 n] (.string c)))
    (za : a.size ≤ 8) (zb : b.size ≤ 8) (zc : c.size ≤ 8) :
    Calls Try.prog 67 #[.agg #[.float .f64 t, .int .i64 s, .int .i64 n]] w fun e w' => e = .returned (.tuple #[.string (a ++ b ++ c), .int .i64 0]) ∧ Below w.heap.size w w' := by
  have hu2 := Try.underlying42
  have hr := run87 x
  have s1 : ¬ 9223372036854775807 < a.size + b.size := by omega
  have s2 : ¬ 9223372036854775807 < a.size + b.size + c.size := by omega
  have HB := Aside0.mk (Below.refl w.heap.size w)
  have hq : decide ((9223372036854775808 : Int) ≤ (x : Int)) = true := decide_eq_true (by omega)
  clear hx
  go_enter Try.func67, Try.ntmps67
  go_wp2_with (go_at_call 31; (with_reducible refine (C31.out _).mono ?_); rintro e w1 ⟨rfl, rfl⟩)
  go_region_held3 (fun w' => w'.cell? ⟨w.heap.size, 1, none⟩ = some (.int .i64 s) ∧ w'.cell? ⟨w.heap.size, 2, none⟩ = some (.int .i64 n) ∧ w.heap.size < w'.heap.size)
    (refine ⟨?_, ?_, ?_⟩ <;> first | assumption | (rw [hcU _ _ (by first | assumption | (simp; done) | (simp; omega) | omega)]; first | assumption | (go_simp; done) | (simp; done)) | (have hs := hbU.size; simp at hs ⊢; omega) | (rw [hcV _ _ (by first | assumption | (simp; done) | (simp; omega) | omega)]; first | assumption | (go_simp; done) | (simp; done)) | (have hs := hbV.size; simp at hs ⊢; omega) | (rw [hcW _ _ (by first | assumption | (simp; done) | (simp; omega) | omega)]; first | assumption | (go_simp; done) | (simp; done)) | (have hs := hbW.size; simp at hs ⊢; omega) | (go_keep; done) | (go_simp; done) | (simp; omega))
    (first | (go_at_call 23; (with_reducible refine (CU.out _).mono ?_); rintro e wU ⟨rfl, hbU⟩; have hcU := bcell hbU; have nb := Aside0.mk (below_step bel hbU); clear HB; have HB := nb; clear nb) | (go_at_call 25; (with_reducible refine (CS.out _).mono ?_); rintro e wV ⟨rfl, hbV⟩; have hcV := bcell hbV; have nb := Aside0.mk (below_step bel hbV); clear HB; have HB := nb; clear nb) | (go_at_call 25; (with_reducible refine (CN.out _).mono ?_); rintro e wW ⟨rfl, hbW⟩; have hcW := bcell hbW; have nb := Aside0.mk (below_step bel hbW); clear HB; have HB := nb; clear nb))
  go_wp2_with fail
  go_ret2
  exact ⟨rfl, HB.out⟩

set_option maxRecDepth 100000 in
set_option maxHeartbeats 2000000 in
theorem key67_high (t x : Nat) (s n : Int) (a b c : ByteArray) (w : World) (hx : x < 9223372036854775808) 
    (C31 : Aside0 (∀ w, Calls Try.prog 31 #[.float .f64 t] w fun e w' => e = .returned (.tuple #[.float .f64 x, .int .i64 0]) ∧ w = w'))
    (CU : Aside0 (Gives 23 #[.int .u64 (bits .or .u64 (x : Int) 9223372036854775808)] (.string a)))
    (CS : Aside0 (Gives 25 #[.int .i64 s] (.string b)))
    (CN : Aside0 (Gives 25 #[.int .i64 n] (.string c)))
    (za : a.size ≤ 8) (zb : b.size ≤ 8) (zc : c.size ≤ 8) :
    Calls Try.prog 67 #[.agg #[.float .f64 t, .int .i64 s, .int .i64 n]] w fun e w' => e = .returned (.tuple #[.string (a ++ b ++ c), .int .i64 0]) ∧ Below w.heap.size w w' := by
  have hu2 := Try.underlying42
  have hr := run87 x
  have s1 : ¬ 9223372036854775807 < a.size + b.size := by omega
  have s2 : ¬ 9223372036854775807 < a.size + b.size + c.size := by omega
  have HB := Aside0.mk (Below.refl w.heap.size w)
  have hq : decide ((9223372036854775808 : Int) ≤ (x : Int)) = false := decide_eq_false (by omega)
  clear hx
  go_enter Try.func67, Try.ntmps67
  go_wp2_with (go_at_call 31; (with_reducible refine (C31.out _).mono ?_); rintro e w1 ⟨rfl, rfl⟩)
  go_region_held3 (fun w' => w'.cell? ⟨w.heap.size, 1, none⟩ = some (.int .i64 s) ∧ w'.cell? ⟨w.heap.size, 2, none⟩ = some (.int .i64 n) ∧ w.heap.size < w'.heap.size)
    (refine ⟨?_, ?_, ?_⟩ <;> first | assumption | (rw [hcU _ _ (by first | assumption | (simp; done) | (simp; omega) | omega)]; first | assumption | (go_simp; done) | (simp; done)) | (have hs := hbU.size; simp at hs ⊢; omega) | (rw [hcV _ _ (by first | assumption | (simp; done) | (simp; omega) | omega)]; first | assumption | (go_simp; done) | (simp; done)) | (have hs := hbV.size; simp at hs ⊢; omega) | (rw [hcW _ _ (by first | assumption | (simp; done) | (simp; omega) | omega)]; first | assumption | (go_simp; done) | (simp; done)) | (have hs := hbW.size; simp at hs ⊢; omega) | (go_keep; done) | (go_simp; done) | (simp; omega))
    (first | (go_at_call 23; (with_reducible refine (CU.out _).mono ?_); rintro e wU ⟨rfl, hbU⟩; have hcU := bcell hbU; have nb := Aside0.mk (below_step bel hbU); clear HB; have HB := nb; clear nb) | (go_at_call 25; (with_reducible refine (CS.out _).mono ?_); rintro e wV ⟨rfl, hbV⟩; have hcV := bcell hbV; have nb := Aside0.mk (below_step bel hbV); clear HB; have HB := nb; clear nb) | (go_at_call 25; (with_reducible refine (CN.out _).mono ?_); rintro e wW ⟨rfl, hbW⟩; have hcW := bcell hbW; have nb := Aside0.mk (below_step bel hbW); clear HB; have HB := nb; clear nb))
  go_wp2_with fail
  go_ret2
  exact ⟨rfl, HB.out⟩

set_option maxRecDepth 100000 in
set_option maxHeartbeats 2000000 in
theorem key68_low (t x : Nat) (s n : Int) (a b c : ByteArray) (w : World) (hx : 9223372036854775808 ≤ x) (hl : (FloatKind.f64.format.order x 0 == some .lt) = true) 
    (C31 : Aside0 (∀ w, Calls Try.prog 32 #[.float .f64 t] w fun e w' => e = .returned (.tuple #[.float .f64 x, .int .i64 0]) ∧ w = w'))
    (CU : Aside0 (Gives 24 #[.int .u64 (IntKind.u64.wrap (18446744073709551615 - (x : Int)))] (.string a)))
    (CS : Aside0 (Gives 26 #[.int .i64 s] (.string b)))
    (CN : Aside0 (Gives 26 #[.int .i64 n] (.string c)))
    (za : a.size ≤ 8) (zb : b.size ≤ 8) (zc : c.size ≤ 8) :
    Calls Try.prog 68 #[.agg #[.float .f64 t, .int .i64 s, .int .i64 n]] w fun e w' => e = .returned (.tuple #[.string (a ++ b ++ c), .int .i64 0]) ∧ Below w.heap.size w w' := by
  have hu2 := Try.underlying42
  have hr := run87 x
  have s1 : ¬ 9223372036854775807 < a.size + b.size := by omega
  have s2 : ¬ 9223372036854775807 < a.size + b.size + c.size := by omega
  have HB := Aside0.mk (Below.refl w.heap.size w)
  clear za zb zc
  clear hx
  go_enter Try.func68, Try.ntmps68
  go_wp2_with (go_at_call 32; (with_reducible refine (C31.out _).mono ?_); rintro e w1 ⟨rfl, rfl⟩)
  go_region_held3 (fun w' => w'.cell? ⟨w.heap.size, 1, none⟩ = some (.int .i64 s) ∧ w'.cell? ⟨w.heap.size, 2, none⟩ = some (.int .i64 n) ∧ w.heap.size < w'.heap.size)
    (refine ⟨?_, ?_, ?_⟩ <;> first | assumption | (rw [hcU _ _ (by first | assumption | (simp; done) | (simp; omega) | omega)]; first | assumption | (go_simp; done) | (simp; done)) | (have hs := hbU.size; simp at hs ⊢; omega) | (rw [hcV _ _ (by first | assumption | (simp; done) | (simp; omega) | omega)]; first | assumption | (go_simp; done) | (simp; done)) | (have hs := hbV.size; simp at hs ⊢; omega) | (rw [hcW _ _ (by first | assumption | (simp; done) | (simp; omega) | omega)]; first | assumption | (go_simp; done) | (simp; done)) | (have hs := hbW.size; simp at hs ⊢; omega) | (go_keep; done) | (go_simp; done) | (simp; omega))
    (first | (go_at_call 24; (with_reducible refine (CU.out _).mono ?_); rintro e wU ⟨rfl, hbU⟩; have hcU := bcell hbU; have nb := Aside0.mk (below_step bel hbU); clear HB; have HB := nb; clear nb) | (go_at_call 26; (with_reducible refine (CS.out _).mono ?_); rintro e wV ⟨rfl, hbV⟩; have hcV := bcell hbV; have nb := Aside0.mk (below_step bel hbV); clear HB; have HB := nb; clear nb) | (go_at_call 26; (with_reducible refine (CN.out _).mono ?_); rintro e wW ⟨rfl, hbW⟩; have hcW := bcell hbW; have nb := Aside0.mk (below_step bel hbW); clear HB; have HB := nb; clear nb))
  go_wp2_with fail
  go_ret2
  exact ⟨rfl, HB.out⟩

set_option maxRecDepth 100000 in
set_option maxHeartbeats 2000000 in
theorem key68_high (t x : Nat) (s n : Int) (a b c : ByteArray) (w : World) (hx : x < 9223372036854775808) (hl : (FloatKind.f64.format.order x 0 == some .lt) = false) 
    (C31 : Aside0 (∀ w, Calls Try.prog 32 #[.float .f64 t] w fun e w' => e = .returned (.tuple #[.float .f64 x, .int .i64 0]) ∧ w = w'))
    (CU : Aside0 (Gives 24 #[.int .u64 (IntKind.u64.wrap ((x : Int) + 9223372036854775808))] (.string a)))
    (CS : Aside0 (Gives 26 #[.int .i64 s] (.string b)))
    (CN : Aside0 (Gives 26 #[.int .i64 n] (.string c)))
    (za : a.size ≤ 8) (zb : b.size ≤ 8) (zc : c.size ≤ 8) :
    Calls Try.prog 68 #[.agg #[.float .f64 t, .int .i64 s, .int .i64 n]] w fun e w' => e = .returned (.tuple #[.string (a ++ b ++ c), .int .i64 0]) ∧ Below w.heap.size w w' := by
  have hu2 := Try.underlying42
  have hr := run87 x
  have s1 : ¬ 9223372036854775807 < a.size + b.size := by omega
  have s2 : ¬ 9223372036854775807 < a.size + b.size + c.size := by omega
  have HB := Aside0.mk (Below.refl w.heap.size w)
  clear za zb zc
  clear hx
  go_enter Try.func68, Try.ntmps68
  go_wp2_with (go_at_call 32; (with_reducible refine (C31.out _).mono ?_); rintro e w1 ⟨rfl, rfl⟩)
  go_region_held3 (fun w' => w'.cell? ⟨w.heap.size, 1, none⟩ = some (.int .i64 s) ∧ w'.cell? ⟨w.heap.size, 2, none⟩ = some (.int .i64 n) ∧ w.heap.size < w'.heap.size)
    (refine ⟨?_, ?_, ?_⟩ <;> first | assumption | (rw [hcU _ _ (by first | assumption | (simp; done) | (simp; omega) | omega)]; first | assumption | (go_simp; done) | (simp; done)) | (have hs := hbU.size; simp at hs ⊢; omega) | (rw [hcV _ _ (by first | assumption | (simp; done) | (simp; omega) | omega)]; first | assumption | (go_simp; done) | (simp; done)) | (have hs := hbV.size; simp at hs ⊢; omega) | (rw [hcW _ _ (by first | assumption | (simp; done) | (simp; omega) | omega)]; first | assumption | (go_simp; done) | (simp; done)) | (have hs := hbW.size; simp at hs ⊢; omega) | (go_keep; done) | (go_simp; done) | (simp; omega))
    (first | (go_at_call 24; (with_reducible refine (CU.out _).mono ?_); rintro e wU ⟨rfl, hbU⟩; have hcU := bcell hbU; have nb := Aside0.mk (below_step bel hbU); clear HB; have HB := nb; clear nb) | (go_at_call 26; (with_reducible refine (CS.out _).mono ?_); rintro e wV ⟨rfl, hbV⟩; have hcV := bcell hbV; have nb := Aside0.mk (below_step bel hbV); clear HB; have HB := nb; clear nb) | (go_at_call 26; (with_reducible refine (CN.out _).mono ?_); rintro e wW ⟨rfl, hbW⟩; have hcW := bcell hbW; have nb := Aside0.mk (below_step bel hbW); clear HB; have HB := nb; clear nb))
  go_wp2_with fail
  go_ret2
  exact ⟨rfl, HB.out⟩

set_option maxRecDepth 100000 in
set_option maxHeartbeats 2000000 in
theorem key67_nan (t : Nat) (s n : Int) (w : World) (C31 : Aside0 (∀ w, Calls Try.prog 31 #[.float .f64 t] w fun e w' => e = .returned (.tuple #[.float .f64 0, .int .i64 7]) ∧ w = w')) :
    Calls Try.prog 67 #[.agg #[.float .f64 t, .int .i64 s, .int .i64 n]] w fun e w' => e = .returned (.tuple #[.string ⟨#[]⟩, .int .i64 7]) ∧ Below w.heap.size w w' := by
  have hu2 := Try.underlying42
  have HB := Aside0.mk (Below.refl w.heap.size w)
  go_enter Try.func67, Try.ntmps67
  go_wp2_with (go_at_call 31; (with_reducible refine (C31.out _).mono ?_); rintro e w1 ⟨rfl, rfl⟩)
  go_ret2
  exact ⟨rfl, bel⟩

set_option maxRecDepth 100000 in
set_option maxHeartbeats 2000000 in
theorem key68_nan (t : Nat) (s n : Int) (w : World) (C31 : Aside0 (∀ w, Calls Try.prog 32 #[.float .f64 t] w fun e w' => e = .returned (.tuple #[.float .f64 0, .int .i64 7]) ∧ w = w')) :
    Calls Try.prog 68 #[.agg #[.float .f64 t, .int .i64 s, .int .i64 n]] w fun e w' => e = .returned (.tuple #[.string ⟨#[]⟩, .int .i64 7]) ∧ Below w.heap.size w w' := by
  have hu2 := Try.underlying42
  have HB := Aside0.mk (Below.refl w.heap.size w)
  go_enter Try.func68, Try.ntmps68
  go_wp2_with (go_at_call 32; (with_reducible refine (C31.out _).mono ?_); rintro e w1 ⟨rfl, rfl⟩)
  go_ret2
  exact ⟨rfl, bel⟩

theorem key67_calls (t : Nat) (s n : Int) (ht : t < 18446744073709551616) (hs : -9223372036854775808 ≤ s ∧ s < 9223372036854775808) (hn : -9223372036854775808 ≤ n ∧ n < 9223372036854775808) (w : World) :
    Calls Try.prog 67 #[.agg #[.float .f64 t, .int .i64 s, .int .i64 n]] w fun e w' => e = .returned (.tuple #[.string (keyS t s n).1, .int .i64 (keyS t s n).2]) ∧ Below w.heap.size w w' := by
  by_cases h : isNan t
  · have e1 : keyS t s n = (⟨#[]⟩, 7) := if_pos h
    rw [e1]
    exact key67_nan t s n w ⟨fun w => by have g := norm31_calls t w; rw [show norm t = 0 from if_pos h, show normE t = 7 from if_pos h] at g; exact g⟩
  · have e1 : keyS t s n = (strOfNums (be8 (kb (norm t))) ++ strOfNums (be8 (s + 9223372036854775808)) ++ strOfNums (be8 (n + 9223372036854775808)), 0) := if_neg h
    have z : ∀ k : Int, (strOfNums (be8 k)).size ≤ 8 := fun k => by rw [size_strOfNums]; exact Nat.le_refl _
    have C31 := Aside0.mk (fun w => (by have g := norm31_calls t w; rw [show normE t = 0 from if_neg h] at g; exact g : Calls Try.prog 31 #[.float .f64 t] w fun e w' => e = .returned (.tuple #[.float .f64 (norm t), .int .i64 0]) ∧ w = w'))
    have hx := norm_lt ht
    have hv := (norm_val h).1
    have hnn := (norm_val h).2
    rw [e1]
    by_cases hl : 9223372036854775808 ≤ norm t
    · refine key67_low t (norm t) s n _ _ _ w hl  C31 ⟨fun w => ?_⟩ ⟨fun w => I_calls s hs w⟩ ⟨fun w => I_calls n hn w⟩ (z _) (z _) (z _)
      rw [xor_top hx hl]
      exact U_calls _ w
    · refine key67_high t (norm t) s n _ _ _ w (by omega)  C31 ⟨fun w => ?_⟩ ⟨fun w => I_calls s hs w⟩ ⟨fun w => I_calls n hn w⟩ (z _) (z _) (z _)
      rw [or_top (by omega)]
      exact U_calls _ w

theorem key68_calls (t : Nat) (s n : Int) (ht : t < 18446744073709551616) (hs : -9223372036854775808 ≤ s ∧ s < 9223372036854775808) (hn : -9223372036854775808 ≤ n ∧ n < 9223372036854775808) (w : World) :
    Calls Try.prog 68 #[.agg #[.float .f64 t, .int .i64 s, .int .i64 n]] w fun e w' => e = .returned (.tuple #[.string (keyS t s n).1, .int .i64 (keyS t s n).2]) ∧ Below w.heap.size w w' := by
  by_cases h : isNan t
  · have e1 : keyS t s n = (⟨#[]⟩, 7) := if_pos h
    rw [e1]
    exact key68_nan t s n w ⟨fun w => by have g := norm32_calls t w; rw [show norm t = 0 from if_pos h, show normE t = 7 from if_pos h] at g; exact g⟩
  · have e1 : keyS t s n = (strOfNums (be8 (kb (norm t))) ++ strOfNums (be8 (s + 9223372036854775808)) ++ strOfNums (be8 (n + 9223372036854775808)), 0) := if_neg h
    have z : ∀ k : Int, (strOfNums (be8 k)).size ≤ 8 := fun k => by rw [size_strOfNums]; exact Nat.le_refl _
    have C31 := Aside0.mk (fun w => (by have g := norm32_calls t w; rw [show normE t = 0 from if_neg h] at g; exact g : Calls Try.prog 32 #[.float .f64 t] w fun e w' => e = .returned (.tuple #[.float .f64 (norm t), .int .i64 0]) ∧ w = w'))
    have hx := norm_lt ht
    have hv := (norm_val h).1
    have hnn := (norm_val h).2
    rw [e1]
    by_cases hl : 9223372036854775808 ≤ norm t
    · refine key68_low t (norm t) s n _ _ _ w hl (by rw [ord_lt]; exact decide_eq_true ⟨hnn, not_nan_zero, by rw [sval_zero]; exact low_neg ht h hl⟩) C31 ⟨fun w => ?_⟩ ⟨fun w => refI_calls s hs w⟩ ⟨fun w => refI_calls n hn w⟩ (z _) (z _) (z _)
      rw [sub_top hx hl]
      exact refU_calls _ (kb_range hx) w
    · refine key68_high t (norm t) s n _ _ _ w (by omega) (by rw [ord_lt]; exact decide_eq_false (fun g => by rw [sval_zero] at g; exact high_pos (by omega) g.2.2)) C31 ⟨fun w => ?_⟩ ⟨fun w => refI_calls s hs w⟩ ⟨fun w => refI_calls n hn w⟩ (z _) (z _) (z _)
      rw [add_top (by omega)]
      exact refU_calls _ (kb_range hx) w

end Go.Proofs.Ytlbjcdfognofgaa.StampK
