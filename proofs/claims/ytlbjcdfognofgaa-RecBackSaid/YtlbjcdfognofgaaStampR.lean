/- What stands in a text, read as a stamp: the package's Read and the reference's, and when two stamps are the same. -/
import Derived.Test.YtlbjcdfognofgaaWk
import Derived.Test.YtlbjcdfognofgaaStampK
import Derived.Deep.DrawnRows
import Derived.Deep.RegionHeld3
namespace Go.Proofs.Ytlbjcdfognofgaa.StampR
open Go.RowKit Go.Proofs.YtlbjcdfognofgaaW.PrintWords Go.Proofs.YtlbjcdfognofgaaW.PrintLast Go.Proofs.YtlbjcdfognofgaaW.PrintMore Go.Proofs.Ytlbjcdfognofgaa.Be Go.Proofs.Ytlbjcdfognofgaa.Fl Go.Proofs.Ytlbjcdfognofgaa.StampA Go.Proofs.Ytlbjcdfognofgaa.StampB Go.Proofs.Ytlbjcdfognofgaa.StampC Go.Proofs.Ytlbjcdfognofgaa.StampD Go.Proofs.Ytlbjcdfognofgaa.StampK Go.Proofs.Ytlbjcdfognofgaa.SRec Go.Proofs.Ytlbjcdfognofgaa.Wk
attribute [local go_sem ↓] Go.wp_at_zero Go.wp_at_succ

attribute [local go_sem] run_store_float
set_option linter.unusedVariables false
theorem bfroz {W w1 : World} (hb : Below W.heap.size W w1) : ∀ b o, b < W.heap.size → w1.frozen? ⟨b, o, none⟩ = W.frozen? ⟨b, o, none⟩ :=
  fun b o h => by simp [World.frozen?, hb.block b h]

set_option maxRecDepth 100000 in
set_option maxHeartbeats 2000000 in
theorem read69_1 (b : ByteArray) (a u p e s q f n o g : Int) (w : World) (h1 : 1 ≤ e) (CU : Aside0 (Gives 48 #[.string b, .int .i64 a] (.tuple #[.int .u64 u, .int .i64 p, .int .i64 e]))) :
    Calls Try.prog 69 #[.string b, .int .i64 a] w fun r w' => r = .returned (.tuple #[.agg #[.float .f64 0, .int .i64 0, .int .i64 0], .int .i64 0, .int .i64 e]) ∧ Below w.heap.size w w' := by
  have hu2 := Try.underlying42
  
  have HB := Aside0.mk (Below.refl w.heap.size w)
  go_enter Try.func69, Try.ntmps69
  go_wp2_with (first | (go_at_call 48; (with_reducible refine (CU.out _).mono ?_); rintro e w1 ⟨rfl, hb⟩; have nb := Aside0.mk (below_step bel hb); clear HB; have HB := nb; clear nb; have nn := c3s (b := w.heap.size) (v0 := .float .f64 0) (v1 := .int .i64 0) (v2 := .int .i64 0) hb; clear hb; (try clear hg c0 c1 c2 f0 f1 f2); obtain ⟨c0, c1, c2, f0, f1, f2, hg⟩ := nn))
  have hr3 := Try.results69
  refine bodyPost_ret (v := .tuple #[.agg #[.float .f64 0, .int .i64 0, .int .i64 0], .int .i64 0, .int .i64 e]) (by simp [results, Try.results69, go_sem, *]) rfl ⟨rfl, bel⟩

set_option maxRecDepth 100000 in
set_option maxHeartbeats 2000000 in
theorem read69_2 (b : ByteArray) (a u p e s q f n o g : Int) (w : World) (h1 : e ≤ 0 ∧ 0 ≤ e) (h2 : 1 ≤ f) (CU : Aside0 (Gives 48 #[.string b, .int .i64 a] (.tuple #[.int .u64 u, .int .i64 p, .int .i64 e]))) (CS : Aside0 (Gives 50 #[.string b, .int .i64 p] (.tuple #[.int .i64 s, .int .i64 q, .int .i64 f]))) :
    Calls Try.prog 69 #[.string b, .int .i64 a] w fun r w' => r = .returned (.tuple #[.agg #[.float .f64 0, .int .i64 0, .int .i64 0], .int .i64 0, .int .i64 f]) ∧ Below w.heap.size w w' := by
  have hu2 := Try.underlying42
  obtain ⟨h1a, h1b⟩ := h1
  have HB := Aside0.mk (Below.refl w.heap.size w)
  go_enter Try.func69, Try.ntmps69
  go_wp2_with (first | (go_at_call 48; (with_reducible refine (CU.out _).mono ?_); rintro e w1 ⟨rfl, hb⟩; have nb := Aside0.mk (below_step bel hb); clear HB; have HB := nb; clear nb; have nn := c3s (b := w.heap.size) (v0 := .float .f64 0) (v1 := .int .i64 0) (v2 := .int .i64 0) hb; clear hb; (try clear hg c0 c1 c2 f0 f1 f2); obtain ⟨c0, c1, c2, f0, f1, f2, hg⟩ := nn) | (go_at_call 50; (with_reducible refine (CS.out _).mono ?_); rintro e w1 ⟨rfl, hb⟩; have nb := Aside0.mk (below_step bel hb); clear HB; have HB := nb; clear nb; have nn := c3s (b := w.heap.size) (v0 := .float .f64 0) (v1 := .int .i64 0) (v2 := .int .i64 0) hb; clear hb; (try clear hg c0 c1 c2 f0 f1 f2); obtain ⟨c0, c1, c2, f0, f1, f2, hg⟩ := nn))
  have hr3 := Try.results69
  refine bodyPost_ret (v := .tuple #[.agg #[.float .f64 0, .int .i64 0, .int .i64 0], .int .i64 0, .int .i64 f]) (by simp [results, Try.results69, go_sem, *]) rfl ⟨rfl, bel⟩

set_option maxRecDepth 100000 in
set_option maxHeartbeats 2000000 in
theorem read69_3 (b : ByteArray) (a u p e s q f n o g : Int) (w : World) (h1 : e ≤ 0 ∧ 0 ≤ e) (h2 : f ≤ 0 ∧ 0 ≤ f) (h3 : 1 ≤ g) (CU : Aside0 (Gives 48 #[.string b, .int .i64 a] (.tuple #[.int .u64 u, .int .i64 p, .int .i64 e]))) (CS : Aside0 (Gives 50 #[.string b, .int .i64 p] (.tuple #[.int .i64 s, .int .i64 q, .int .i64 f]))) (CN : Aside0 (Gives 50 #[.string b, .int .i64 q] (.tuple #[.int .i64 n, .int .i64 o, .int .i64 g]))) :
    Calls Try.prog 69 #[.string b, .int .i64 a] w fun r w' => r = .returned (.tuple #[.agg #[.float .f64 0, .int .i64 0, .int .i64 0], .int .i64 0, .int .i64 g]) ∧ Below w.heap.size w w' := by
  have hu2 := Try.underlying42
  obtain ⟨h1a, h1b⟩ := h1
  obtain ⟨h2a, h2b⟩ := h2
  have HB := Aside0.mk (Below.refl w.heap.size w)
  go_enter Try.func69, Try.ntmps69
  go_wp2_with (first | (go_at_call 48; (with_reducible refine (CU.out _).mono ?_); rintro e w1 ⟨rfl, hb⟩; have nb := Aside0.mk (below_step bel hb); clear HB; have HB := nb; clear nb; have nn := c3s (b := w.heap.size) (v0 := .float .f64 0) (v1 := .int .i64 0) (v2 := .int .i64 0) hb; clear hb; (try clear hg c0 c1 c2 f0 f1 f2); obtain ⟨c0, c1, c2, f0, f1, f2, hg⟩ := nn) | (go_at_call 50; (with_reducible refine (CS.out _).mono ?_); rintro e w1 ⟨rfl, hb⟩; have nb := Aside0.mk (below_step bel hb); clear HB; have HB := nb; clear nb; have nn := c3s (b := w.heap.size) (v0 := .float .f64 0) (v1 := .int .i64 0) (v2 := .int .i64 0) hb; clear hb; (try clear hg c0 c1 c2 f0 f1 f2); obtain ⟨c0, c1, c2, f0, f1, f2, hg⟩ := nn) | (go_at_call 50; (with_reducible refine (CN.out _).mono ?_); rintro e w1 ⟨rfl, hb⟩; have nb := Aside0.mk (below_step bel hb); clear HB; have HB := nb; clear nb; have nn := c3s (b := w.heap.size) (v0 := .float .f64 0) (v1 := .int .i64 0) (v2 := .int .i64 0) hb; clear hb; (try clear hg c0 c1 c2 f0 f1 f2); obtain ⟨c0, c1, c2, f0, f1, f2, hg⟩ := nn))
  have hr3 := Try.results69
  refine bodyPost_ret (v := .tuple #[.agg #[.float .f64 0, .int .i64 0, .int .i64 0], .int .i64 0, .int .i64 g]) (by simp [results, Try.results69, go_sem, *]) rfl ⟨rfl, bel⟩

set_option maxRecDepth 100000 in
set_option maxHeartbeats 2000000 in
theorem read69_hnan (b : ByteArray) (a u p e s q f n o g : Int) (w : World) (h1 : e ≤ 0 ∧ 0 ≤ e) (h2 : f ≤ 0 ∧ 0 ≤ f) (h3 : g ≤ 0 ∧ 0 ≤ g) (h4 : decide ((9223372036854775808 : Int) ≤ u) = true) (CU : Aside0 (Gives 48 #[.string b, .int .i64 a] (.tuple #[.int .u64 u, .int .i64 p, .int .i64 e]))) (CS : Aside0 (Gives 50 #[.string b, .int .i64 p] (.tuple #[.int .i64 s, .int .i64 q, .int .i64 f]))) (CN : Aside0 (Gives 50 #[.string b, .int .i64 q] (.tuple #[.int .i64 n, .int .i64 o, .int .i64 g]))) (h5 : nanb (bits .andNot .u64 u 9223372036854775808).toNat = true) :
    Calls Try.prog 69 #[.string b, .int .i64 a] w fun r w' => r = .returned (.tuple #[.agg #[.float .f64 0, .int .i64 0, .int .i64 0], .int .i64 0, .int .i64 7]) ∧ Below w.heap.size w w' := by
  have hu2 := Try.underlying42
  obtain ⟨h1a, h1b⟩ := h1
  obtain ⟨h2a, h2b⟩ := h2
  obtain ⟨h3a, h3b⟩ := h3
  have hr := run104 (bits .andNot .u64 u 9223372036854775808)
  have HB := Aside0.mk (Below.refl w.heap.size w)
  go_enter Try.func69, Try.ntmps69
  go_wp2_with (first | (go_at_call 48; (with_reducible refine (CU.out _).mono ?_); rintro e w1 ⟨rfl, hb⟩; have nb := Aside0.mk (below_step bel hb); clear HB; have HB := nb; clear nb; have nn := c3s (b := w.heap.size) (v0 := .float .f64 0) (v1 := .int .i64 0) (v2 := .int .i64 0) hb; clear hb; (try clear hg c0 c1 c2 f0 f1 f2); obtain ⟨c0, c1, c2, f0, f1, f2, hg⟩ := nn) | (go_at_call 50; (with_reducible refine (CS.out _).mono ?_); rintro e w1 ⟨rfl, hb⟩; have nb := Aside0.mk (below_step bel hb); clear HB; have HB := nb; clear nb; have nn := c3s (b := w.heap.size) (v0 := .float .f64 0) (v1 := .int .i64 0) (v2 := .int .i64 0) hb; clear hb; (try clear hg c0 c1 c2 f0 f1 f2); obtain ⟨c0, c1, c2, f0, f1, f2, hg⟩ := nn) | (go_at_call 50; (with_reducible refine (CN.out _).mono ?_); rintro e w1 ⟨rfl, hb⟩; have nb := Aside0.mk (below_step bel hb); clear HB; have HB := nb; clear nb; have nn := c3s (b := w.heap.size) (v0 := .float .f64 0) (v1 := .int .i64 0) (v2 := .int .i64 0) hb; clear hb; (try clear hg c0 c1 c2 f0 f1 f2); obtain ⟨c0, c1, c2, f0, f1, f2, hg⟩ := nn) | (go_at_call 83; (with_reducible refine (isNaN_calls _ _).mono ?_); rintro e w1 ⟨rfl, rfl⟩))
  have hr3 := Try.results69
  refine bodyPost_ret (v := .tuple #[.agg #[.float .f64 0, .int .i64 0, .int .i64 0], .int .i64 0, .int .i64 7]) (by simp [results, Try.results69, go_sem, *]) rfl ⟨rfl, bel⟩

set_option maxRecDepth 100000 in
set_option maxHeartbeats 2000000 in
theorem read69_hzero (b : ByteArray) (a u p e s q f n o g : Int) (w : World) (h1 : e ≤ 0 ∧ 0 ≤ e) (h2 : f ≤ 0 ∧ 0 ≤ f) (h3 : g ≤ 0 ∧ 0 ≤ g) (h4 : decide ((9223372036854775808 : Int) ≤ u) = true) (CU : Aside0 (Gives 48 #[.string b, .int .i64 a] (.tuple #[.int .u64 u, .int .i64 p, .int .i64 e]))) (CS : Aside0 (Gives 50 #[.string b, .int .i64 p] (.tuple #[.int .i64 s, .int .i64 q, .int .i64 f]))) (CN : Aside0 (Gives 50 #[.string b, .int .i64 q] (.tuple #[.int .i64 n, .int .i64 o, .int .i64 g]))) (h5 : nanb (bits .andNot .u64 u 9223372036854775808).toNat = false) (h6 : (bits .andNot .u64 u 9223372036854775808 == 9223372036854775808) = true) :
    Calls Try.prog 69 #[.string b, .int .i64 a] w fun r w' => r = .returned (.tuple #[.agg #[.float .f64 0, .int .i64 0, .int .i64 0], .int .i64 0, .int .i64 7]) ∧ Below w.heap.size w w' := by
  have hu2 := Try.underlying42
  obtain ⟨h1a, h1b⟩ := h1
  obtain ⟨h2a, h2b⟩ := h2
  obtain ⟨h3a, h3b⟩ := h3
  have hr := run104 (bits .andNot .u64 u 9223372036854775808)
  have HB := Aside0.mk (Below.refl w.heap.size w)
  go_enter Try.func69, Try.ntmps69
  go_wp2_with (first | (go_at_call 48; (with_reducible refine (CU.out _).mono ?_); rintro e w1 ⟨rfl, hb⟩; have nb := Aside0.mk (below_step bel hb); clear HB; have HB := nb; clear nb; have nn := c3s (b := w.heap.size) (v0 := .float .f64 0) (v1 := .int .i64 0) (v2 := .int .i64 0) hb; clear hb; (try clear hg c0 c1 c2 f0 f1 f2); obtain ⟨c0, c1, c2, f0, f1, f2, hg⟩ := nn) | (go_at_call 50; (with_reducible refine (CS.out _).mono ?_); rintro e w1 ⟨rfl, hb⟩; have nb := Aside0.mk (below_step bel hb); clear HB; have HB := nb; clear nb; have nn := c3s (b := w.heap.size) (v0 := .float .f64 0) (v1 := .int .i64 0) (v2 := .int .i64 0) hb; clear hb; (try clear hg c0 c1 c2 f0 f1 f2); obtain ⟨c0, c1, c2, f0, f1, f2, hg⟩ := nn) | (go_at_call 50; (with_reducible refine (CN.out _).mono ?_); rintro e w1 ⟨rfl, hb⟩; have nb := Aside0.mk (below_step bel hb); clear HB; have HB := nb; clear nb; have nn := c3s (b := w.heap.size) (v0 := .float .f64 0) (v1 := .int .i64 0) (v2 := .int .i64 0) hb; clear hb; (try clear hg c0 c1 c2 f0 f1 f2); obtain ⟨c0, c1, c2, f0, f1, f2, hg⟩ := nn) | (go_at_call 83; (with_reducible refine (isNaN_calls _ _).mono ?_); rintro e w1 ⟨rfl, rfl⟩))
  have hr3 := Try.results69
  refine bodyPost_ret (v := .tuple #[.agg #[.float .f64 0, .int .i64 0, .int .i64 0], .int .i64 0, .int .i64 7]) (by simp [results, Try.results69, go_sem, *]) rfl ⟨rfl, bel⟩

set_option maxRecDepth 100000 in
set_option maxHeartbeats 2000000 in
theorem read69_hok (b : ByteArray) (a u p e s q f n o g : Int) (w : World) (h1 : e ≤ 0 ∧ 0 ≤ e) (h2 : f ≤ 0 ∧ 0 ≤ f) (h3 : g ≤ 0 ∧ 0 ≤ g) (h4 : decide ((9223372036854775808 : Int) ≤ u) = true) (CU : Aside0 (Gives 48 #[.string b, .int .i64 a] (.tuple #[.int .u64 u, .int .i64 p, .int .i64 e]))) (CS : Aside0 (Gives 50 #[.string b, .int .i64 p] (.tuple #[.int .i64 s, .int .i64 q, .int .i64 f]))) (CN : Aside0 (Gives 50 #[.string b, .int .i64 q] (.tuple #[.int .i64 n, .int .i64 o, .int .i64 g]))) (h5 : nanb (bits .andNot .u64 u 9223372036854775808).toNat = false) (h6 : (bits .andNot .u64 u 9223372036854775808 == 9223372036854775808) = false) :
    Calls Try.prog 69 #[.string b, .int .i64 a] w fun r w' => r = .returned (.tuple #[.agg #[.float .f64 (bits .andNot .u64 u 9223372036854775808).toNat, .int .i64 s, .int .i64 n], .int .i64 o, .int .i64 0]) ∧ Below w.heap.size w w' := by
  have hu2 := Try.underlying42
  obtain ⟨h1a, h1b⟩ := h1
  obtain ⟨h2a, h2b⟩ := h2
  obtain ⟨h3a, h3b⟩ := h3
  have hr := run104 (bits .andNot .u64 u 9223372036854775808)
  have HB := Aside0.mk (Below.refl w.heap.size w)
  go_enter Try.func69, Try.ntmps69
  go_wp2_with (first | (go_at_call 48; (with_reducible refine (CU.out _).mono ?_); rintro e w1 ⟨rfl, hb⟩; have nb := Aside0.mk (below_step bel hb); clear HB; have HB := nb; clear nb; have nn := c3s (b := w.heap.size) (v0 := .float .f64 0) (v1 := .int .i64 0) (v2 := .int .i64 0) hb; clear hb; (try clear hg c0 c1 c2 f0 f1 f2); obtain ⟨c0, c1, c2, f0, f1, f2, hg⟩ := nn) | (go_at_call 50; (with_reducible refine (CS.out _).mono ?_); rintro e w1 ⟨rfl, hb⟩; have nb := Aside0.mk (below_step bel hb); clear HB; have HB := nb; clear nb; have nn := c3s (b := w.heap.size) (v0 := .float .f64 0) (v1 := .int .i64 0) (v2 := .int .i64 0) hb; clear hb; (try clear hg c0 c1 c2 f0 f1 f2); obtain ⟨c0, c1, c2, f0, f1, f2, hg⟩ := nn) | (go_at_call 50; (with_reducible refine (CN.out _).mono ?_); rintro e w1 ⟨rfl, hb⟩; have nb := Aside0.mk (below_step bel hb); clear HB; have HB := nb; clear nb; have nn := c3s (b := w.heap.size) (v0 := .float .f64 0) (v1 := .int .i64 0) (v2 := .int .i64 0) hb; clear hb; (try clear hg c0 c1 c2 f0 f1 f2); obtain ⟨c0, c1, c2, f0, f1, f2, hg⟩ := nn) | (go_at_call 83; (with_reducible refine (isNaN_calls _ _).mono ?_); rintro e w1 ⟨rfl, rfl⟩))
  have hr3 := Try.results69
  refine bodyPost_ret (v := .tuple #[.agg #[.float .f64 (bits .andNot .u64 u 9223372036854775808).toNat, .int .i64 s, .int .i64 n], .int .i64 o, .int .i64 0]) (by simp [results, Try.results69, go_sem, *]) rfl ⟨rfl, bel⟩

set_option maxRecDepth 100000 in
set_option maxHeartbeats 2000000 in
theorem read69_lnan (b : ByteArray) (a u p e s q f n o g : Int) (w : World) (h1 : e ≤ 0 ∧ 0 ≤ e) (h2 : f ≤ 0 ∧ 0 ≤ f) (h3 : g ≤ 0 ∧ 0 ≤ g) (h4 : decide ((9223372036854775808 : Int) ≤ u) = false) (CU : Aside0 (Gives 48 #[.string b, .int .i64 a] (.tuple #[.int .u64 u, .int .i64 p, .int .i64 e]))) (CS : Aside0 (Gives 50 #[.string b, .int .i64 p] (.tuple #[.int .i64 s, .int .i64 q, .int .i64 f]))) (CN : Aside0 (Gives 50 #[.string b, .int .i64 q] (.tuple #[.int .i64 n, .int .i64 o, .int .i64 g]))) (h5 : nanb (bits .xor .u64 IntKind.u64.max u).toNat = true) :
    Calls Try.prog 69 #[.string b, .int .i64 a] w fun r w' => r = .returned (.tuple #[.agg #[.float .f64 0, .int .i64 0, .int .i64 0], .int .i64 0, .int .i64 7]) ∧ Below w.heap.size w w' := by
  have hu2 := Try.underlying42
  obtain ⟨h1a, h1b⟩ := h1
  obtain ⟨h2a, h2b⟩ := h2
  obtain ⟨h3a, h3b⟩ := h3
  have hr := run104 (bits .xor .u64 IntKind.u64.max u)
  have HB := Aside0.mk (Below.refl w.heap.size w)
  go_enter Try.func69, Try.ntmps69
  go_wp2_with (first | (go_at_call 48; (with_reducible refine (CU.out _).mono ?_); rintro e w1 ⟨rfl, hb⟩; have nb := Aside0.mk (below_step bel hb); clear HB; have HB := nb; clear nb; have nn := c3s (b := w.heap.size) (v0 := .float .f64 0) (v1 := .int .i64 0) (v2 := .int .i64 0) hb; clear hb; (try clear hg c0 c1 c2 f0 f1 f2); obtain ⟨c0, c1, c2, f0, f1, f2, hg⟩ := nn) | (go_at_call 50; (with_reducible refine (CS.out _).mono ?_); rintro e w1 ⟨rfl, hb⟩; have nb := Aside0.mk (below_step bel hb); clear HB; have HB := nb; clear nb; have nn := c3s (b := w.heap.size) (v0 := .float .f64 0) (v1 := .int .i64 0) (v2 := .int .i64 0) hb; clear hb; (try clear hg c0 c1 c2 f0 f1 f2); obtain ⟨c0, c1, c2, f0, f1, f2, hg⟩ := nn) | (go_at_call 50; (with_reducible refine (CN.out _).mono ?_); rintro e w1 ⟨rfl, hb⟩; have nb := Aside0.mk (below_step bel hb); clear HB; have HB := nb; clear nb; have nn := c3s (b := w.heap.size) (v0 := .float .f64 0) (v1 := .int .i64 0) (v2 := .int .i64 0) hb; clear hb; (try clear hg c0 c1 c2 f0 f1 f2); obtain ⟨c0, c1, c2, f0, f1, f2, hg⟩ := nn) | (go_at_call 83; (with_reducible refine (isNaN_calls _ _).mono ?_); rintro e w1 ⟨rfl, rfl⟩))
  have hr3 := Try.results69
  refine bodyPost_ret (v := .tuple #[.agg #[.float .f64 0, .int .i64 0, .int .i64 0], .int .i64 0, .int .i64 7]) (by simp [results, Try.results69, go_sem, *]) rfl ⟨rfl, bel⟩

set_option maxRecDepth 100000 in
set_option maxHeartbeats 2000000 in
theorem read69_lzero (b : ByteArray) (a u p e s q f n o g : Int) (w : World) (h1 : e ≤ 0 ∧ 0 ≤ e) (h2 : f ≤ 0 ∧ 0 ≤ f) (h3 : g ≤ 0 ∧ 0 ≤ g) (h4 : decide ((9223372036854775808 : Int) ≤ u) = false) (CU : Aside0 (Gives 48 #[.string b, .int .i64 a] (.tuple #[.int .u64 u, .int .i64 p, .int .i64 e]))) (CS : Aside0 (Gives 50 #[.string b, .int .i64 p] (.tuple #[.int .i64 s, .int .i64 q, .int .i64 f]))) (CN : Aside0 (Gives 50 #[.string b, .int .i64 q] (.tuple #[.int .i64 n, .int .i64 o, .int .i64 g]))) (h5 : nanb (bits .xor .u64 IntKind.u64.max u).toNat = false) (h6 : (bits .xor .u64 IntKind.u64.max u == 9223372036854775808) = true) :
    Calls Try.prog 69 #[.string b, .int .i64 a] w fun r w' => r = .returned (.tuple #[.agg #[.float .f64 0, .int .i64 0, .int .i64 0], .int .i64 0, .int .i64 7]) ∧ Below w.heap.size w w' := by
  have hu2 := Try.underlying42
  obtain ⟨h1a, h1b⟩ := h1
  obtain ⟨h2a, h2b⟩ := h2
  obtain ⟨h3a, h3b⟩ := h3
  have hr := run104 (bits .xor .u64 IntKind.u64.max u)
  have HB := Aside0.mk (Below.refl w.heap.size w)
  go_enter Try.func69, Try.ntmps69
  go_wp2_with (first | (go_at_call 48; (with_reducible refine (CU.out _).mono ?_); rintro e w1 ⟨rfl, hb⟩; have nb := Aside0.mk (below_step bel hb); clear HB; have HB := nb; clear nb; have nn := c3s (b := w.heap.size) (v0 := .float .f64 0) (v1 := .int .i64 0) (v2 := .int .i64 0) hb; clear hb; (try clear hg c0 c1 c2 f0 f1 f2); obtain ⟨c0, c1, c2, f0, f1, f2, hg⟩ := nn) | (go_at_call 50; (with_reducible refine (CS.out _).mono ?_); rintro e w1 ⟨rfl, hb⟩; have nb := Aside0.mk (below_step bel hb); clear HB; have HB := nb; clear nb; have nn := c3s (b := w.heap.size) (v0 := .float .f64 0) (v1 := .int .i64 0) (v2 := .int .i64 0) hb; clear hb; (try clear hg c0 c1 c2 f0 f1 f2); obtain ⟨c0, c1, c2, f0, f1, f2, hg⟩ := nn) | (go_at_call 50; (with_reducible refine (CN.out _).mono ?_); rintro e w1 ⟨rfl, hb⟩; have nb := Aside0.mk (below_step bel hb); clear HB; have HB := nb; clear nb; have nn := c3s (b := w.heap.size) (v0 := .float .f64 0) (v1 := .int .i64 0) (v2 := .int .i64 0) hb; clear hb; (try clear hg c0 c1 c2 f0 f1 f2); obtain ⟨c0, c1, c2, f0, f1, f2, hg⟩ := nn) | (go_at_call 83; (with_reducible refine (isNaN_calls _ _).mono ?_); rintro e w1 ⟨rfl, rfl⟩))
  have hr3 := Try.results69
  refine bodyPost_ret (v := .tuple #[.agg #[.float .f64 0, .int .i64 0, .int .i64 0], .int .i64 0, .int .i64 7]) (by simp [results, Try.results69, go_sem, *]) rfl ⟨rfl, bel⟩

set_option maxRecDepth 100000 in
set_option maxHeartbeats 2000000 in
theorem read69_lok (b : ByteArray) (a u p e s q f n o g : Int) (w : World) (h1 : e ≤ 0 ∧ 0 ≤ e) (h2 : f ≤ 0 ∧ 0 ≤ f) (h3 : g ≤ 0 ∧ 0 ≤ g) (h4 : decide ((9223372036854775808 : Int) ≤ u) = false) (CU : Aside0 (Gives 48 #[.string b, .int .i64 a] (.tuple #[.int .u64 u, .int .i64 p, .int .i64 e]))) (CS : Aside0 (Gives 50 #[.string b, .int .i64 p] (.tuple #[.int .i64 s, .int .i64 q, .int .i64 f]))) (CN : Aside0 (Gives 50 #[.string b, .int .i64 q] (.tuple #[.int .i64 n, .int .i64 o, .int .i64 g]))) (h5 : nanb (bits .xor .u64 IntKind.u64.max u).toNat = false) (h6 : (bits .xor .u64 IntKind.u64.max u == 9223372036854775808) = false) :
    Calls Try.prog 69 #[.string b, .int .i64 a] w fun r w' => r = .returned (.tuple #[.agg #[.float .f64 (bits .xor .u64 IntKind.u64.max u).toNat, .int .i64 s, .int .i64 n], .int .i64 o, .int .i64 0]) ∧ Below w.heap.size w w' := by
  have hu2 := Try.underlying42
  obtain ⟨h1a, h1b⟩ := h1
  obtain ⟨h2a, h2b⟩ := h2
  obtain ⟨h3a, h3b⟩ := h3
  have hr := run104 (bits .xor .u64 IntKind.u64.max u)
  have HB := Aside0.mk (Below.refl w.heap.size w)
  go_enter Try.func69, Try.ntmps69
  go_wp2_with (first | (go_at_call 48; (with_reducible refine (CU.out _).mono ?_); rintro e w1 ⟨rfl, hb⟩; have nb := Aside0.mk (below_step bel hb); clear HB; have HB := nb; clear nb; have nn := c3s (b := w.heap.size) (v0 := .float .f64 0) (v1 := .int .i64 0) (v2 := .int .i64 0) hb; clear hb; (try clear hg c0 c1 c2 f0 f1 f2); obtain ⟨c0, c1, c2, f0, f1, f2, hg⟩ := nn) | (go_at_call 50; (with_reducible refine (CS.out _).mono ?_); rintro e w1 ⟨rfl, hb⟩; have nb := Aside0.mk (below_step bel hb); clear HB; have HB := nb; clear nb; have nn := c3s (b := w.heap.size) (v0 := .float .f64 0) (v1 := .int .i64 0) (v2 := .int .i64 0) hb; clear hb; (try clear hg c0 c1 c2 f0 f1 f2); obtain ⟨c0, c1, c2, f0, f1, f2, hg⟩ := nn) | (go_at_call 50; (with_reducible refine (CN.out _).mono ?_); rintro e w1 ⟨rfl, hb⟩; have nb := Aside0.mk (below_step bel hb); clear HB; have HB := nb; clear nb; have nn := c3s (b := w.heap.size) (v0 := .float .f64 0) (v1 := .int .i64 0) (v2 := .int .i64 0) hb; clear hb; (try clear hg c0 c1 c2 f0 f1 f2); obtain ⟨c0, c1, c2, f0, f1, f2, hg⟩ := nn) | (go_at_call 83; (with_reducible refine (isNaN_calls _ _).mono ?_); rintro e w1 ⟨rfl, rfl⟩))
  have hr3 := Try.results69
  refine bodyPost_ret (v := .tuple #[.agg #[.float .f64 (bits .xor .u64 IntKind.u64.max u).toNat, .int .i64 s, .int .i64 n], .int .i64 o, .int .i64 0]) (by simp [results, Try.results69, go_sem, *]) rfl ⟨rfl, bel⟩

set_option maxRecDepth 100000 in
set_option maxHeartbeats 4000000 in
theorem read70_1 (b kk : ByteArray) (a u p e s q f n o g ke : Int) (w : World) (h1 : 1 ≤ e) (CU : Aside0 (Gives 49 #[.string b, .int .i64 a] (.tuple #[.int .u64 u, .int .i64 p, .int .i64 e]))) :
    Calls Try.prog 70 #[.string b, .int .i64 a] w fun r w' => r = .returned (.tuple #[.agg #[.float .f64 0, .int .i64 0, .int .i64 0], .int .i64 0, .int .i64 e]) ∧ Below w.heap.size w w' := by
  have hu2 := Try.underlying42
  
  have HB := Aside0.mk (Below.refl w.heap.size w)
  go_enter Try.func70, Try.ntmps70
  go_wp2_with (first | (go_at_call 49; (with_reducible refine (CU.out _).mono ?_); rintro e w1 ⟨rfl, hb⟩; have nb := Aside0.mk (below_step bel hb); clear HB; have HB := nb; clear nb; have nn := c3s (b := w.heap.size) (v0 := .float .f64 0) (v1 := .int .i64 0) (v2 := .int .i64 0) hb; clear hb; (try clear hg c0 c1 c2 f0 f1 f2); obtain ⟨c0, c1, c2, f0, f1, f2, hg⟩ := nn))
  have hr3 := Try.results70
  refine bodyPost_ret (v := .tuple #[.agg #[.float .f64 0, .int .i64 0, .int .i64 0], .int .i64 0, .int .i64 e]) (by simp [results, Try.results70, go_sem, *]) rfl ⟨rfl, bel⟩

set_option maxRecDepth 100000 in
set_option maxHeartbeats 4000000 in
theorem read70_2 (b kk : ByteArray) (a u p e s q f n o g ke : Int) (w : World) (h1 : e ≤ 0 ∧ 0 ≤ e) (h2 : 1 ≤ f) (CU : Aside0 (Gives 49 #[.string b, .int .i64 a] (.tuple #[.int .u64 u, .int .i64 p, .int .i64 e]))) (CS : Aside0 (Gives 51 #[.string b, .int .i64 p] (.tuple #[.int .i64 s, .int .i64 q, .int .i64 f]))) :
    Calls Try.prog 70 #[.string b, .int .i64 a] w fun r w' => r = .returned (.tuple #[.agg #[.float .f64 0, .int .i64 0, .int .i64 0], .int .i64 0, .int .i64 f]) ∧ Below w.heap.size w w' := by
  have hu2 := Try.underlying42
  obtain ⟨h1a, h1b⟩ := h1
  have HB := Aside0.mk (Below.refl w.heap.size w)
  go_enter Try.func70, Try.ntmps70
  go_wp2_with (first | (go_at_call 49; (with_reducible refine (CU.out _).mono ?_); rintro e w1 ⟨rfl, hb⟩; have nb := Aside0.mk (below_step bel hb); clear HB; have HB := nb; clear nb; have nn := c3s (b := w.heap.size) (v0 := .float .f64 0) (v1 := .int .i64 0) (v2 := .int .i64 0) hb; clear hb; (try clear hg c0 c1 c2 f0 f1 f2); obtain ⟨c0, c1, c2, f0, f1, f2, hg⟩ := nn) | (go_at_call 51; (with_reducible refine (CS.out _).mono ?_); rintro e w1 ⟨rfl, hb⟩; have nb := Aside0.mk (below_step bel hb); clear HB; have HB := nb; clear nb; have nn := c3s (b := w.heap.size) (v0 := .float .f64 0) (v1 := .int .i64 0) (v2 := .int .i64 0) hb; clear hb; (try clear hg c0 c1 c2 f0 f1 f2); obtain ⟨c0, c1, c2, f0, f1, f2, hg⟩ := nn))
  have hr3 := Try.results70
  refine bodyPost_ret (v := .tuple #[.agg #[.float .f64 0, .int .i64 0, .int .i64 0], .int .i64 0, .int .i64 f]) (by simp [results, Try.results70, go_sem, *]) rfl ⟨rfl, bel⟩

set_option maxRecDepth 100000 in
set_option maxHeartbeats 4000000 in
theorem read70_3 (b kk : ByteArray) (a u p e s q f n o g ke : Int) (w : World) (h1 : e ≤ 0 ∧ 0 ≤ e) (h2 : f ≤ 0 ∧ 0 ≤ f) (h3 : 1 ≤ g) (CU : Aside0 (Gives 49 #[.string b, .int .i64 a] (.tuple #[.int .u64 u, .int .i64 p, .int .i64 e]))) (CS : Aside0 (Gives 51 #[.string b, .int .i64 p] (.tuple #[.int .i64 s, .int .i64 q, .int .i64 f]))) (CN : Aside0 (Gives 51 #[.string b, .int .i64 q] (.tuple #[.int .i64 n, .int .i64 o, .int .i64 g]))) :
    Calls Try.prog 70 #[.string b, .int .i64 a] w fun r w' => r = .returned (.tuple #[.agg #[.float .f64 0, .int .i64 0, .int .i64 0], .int .i64 0, .int .i64 g]) ∧ Below w.heap.size w w' := by
  have hu2 := Try.underlying42
  obtain ⟨h1a, h1b⟩ := h1
  obtain ⟨h2a, h2b⟩ := h2
  have HB := Aside0.mk (Below.refl w.heap.size w)
  go_enter Try.func70, Try.ntmps70
  go_wp2_with (first | (go_at_call 49; (with_reducible refine (CU.out _).mono ?_); rintro e w1 ⟨rfl, hb⟩; have nb := Aside0.mk (below_step bel hb); clear HB; have HB := nb; clear nb; have nn := c3s (b := w.heap.size) (v0 := .float .f64 0) (v1 := .int .i64 0) (v2 := .int .i64 0) hb; clear hb; (try clear hg c0 c1 c2 f0 f1 f2); obtain ⟨c0, c1, c2, f0, f1, f2, hg⟩ := nn) | (go_at_call 51; (with_reducible refine (CS.out _).mono ?_); rintro e w1 ⟨rfl, hb⟩; have nb := Aside0.mk (below_step bel hb); clear HB; have HB := nb; clear nb; have nn := c3s (b := w.heap.size) (v0 := .float .f64 0) (v1 := .int .i64 0) (v2 := .int .i64 0) hb; clear hb; (try clear hg c0 c1 c2 f0 f1 f2); obtain ⟨c0, c1, c2, f0, f1, f2, hg⟩ := nn) | (go_at_call 51; (with_reducible refine (CN.out _).mono ?_); rintro e wK ⟨rfl, hb⟩; have nb := Aside0.mk (below_step bel hb); clear HB; have HB := nb; clear nb; have nn := c3s (b := w.heap.size) (v0 := .float .f64 0) (v1 := .int .i64 0) (v2 := .int .i64 0) hb; clear hb; (try clear hg c0 c1 c2 f0 f1 f2); obtain ⟨c0, c1, c2, f0, f1, f2, hg⟩ := nn))
  have hr3 := Try.results70
  refine bodyPost_ret (v := .tuple #[.agg #[.float .f64 0, .int .i64 0, .int .i64 0], .int .i64 0, .int .i64 g]) (by simp [results, Try.results70, go_sem, *]) rfl ⟨rfl, bel⟩

set_option maxRecDepth 100000 in
set_option maxHeartbeats 4000000 in
theorem read70_hnan (b kk : ByteArray) (a u p e s q f n o g ke : Int) (w : World) (h1 : e ≤ 0 ∧ 0 ≤ e) (h2 : f ≤ 0 ∧ 0 ≤ f) (h3 : g ≤ 0 ∧ 0 ≤ g) (h4 : decide ((9223372036854775808 : Int) ≤ u) = true) (CU : Aside0 (Gives 49 #[.string b, .int .i64 a] (.tuple #[.int .u64 u, .int .i64 p, .int .i64 e]))) (CS : Aside0 (Gives 51 #[.string b, .int .i64 p] (.tuple #[.int .i64 s, .int .i64 q, .int .i64 f]))) (CN : Aside0 (Gives 51 #[.string b, .int .i64 q] (.tuple #[.int .i64 n, .int .i64 o, .int .i64 g]))) (CK : Aside0 (Gives 68 #[.agg #[.float .f64 (IntKind.u64.wrap (u - 9223372036854775808)).toNat, .int .i64 s, .int .i64 n]] (.tuple #[.string kk, .int .i64 ke]))) (h5 : 1 ≤ ke) :
    Calls Try.prog 70 #[.string b, .int .i64 a] w fun r w' => r = .returned (.tuple #[.agg #[.float .f64 0, .int .i64 0, .int .i64 0], .int .i64 0, .int .i64 7]) ∧ Below w.heap.size w w' := by
  have hu2 := Try.underlying42
  obtain ⟨h1a, h1b⟩ := h1
  obtain ⟨h2a, h2b⟩ := h2
  obtain ⟨h3a, h3b⟩ := h3
  have hr := run104 (IntKind.u64.wrap (u - 9223372036854775808))
  have hr2 := run104 (IntKind.u64.wrap (18446744073709551615 - u))
  have HB := Aside0.mk (Below.refl w.heap.size w)
  go_enter Try.func70, Try.ntmps70
  go_wp2_with (first | (go_at_call 49; (with_reducible refine (CU.out _).mono ?_); rintro e w1 ⟨rfl, hb⟩; have nb := Aside0.mk (below_step bel hb); clear HB; have HB := nb; clear nb; have nn := c3s (b := w.heap.size) (v0 := .float .f64 0) (v1 := .int .i64 0) (v2 := .int .i64 0) hb; clear hb; (try clear hg c0 c1 c2 f0 f1 f2); obtain ⟨c0, c1, c2, f0, f1, f2, hg⟩ := nn) | (go_at_call 51; (with_reducible refine (CS.out _).mono ?_); rintro e w1 ⟨rfl, hb⟩; have nb := Aside0.mk (below_step bel hb); clear HB; have HB := nb; clear nb; have nn := c3s (b := w.heap.size) (v0 := .float .f64 0) (v1 := .int .i64 0) (v2 := .int .i64 0) hb; clear hb; (try clear hg c0 c1 c2 f0 f1 f2); obtain ⟨c0, c1, c2, f0, f1, f2, hg⟩ := nn) | (go_at_call 51; (with_reducible refine (CN.out _).mono ?_); rintro e wK ⟨rfl, hb⟩; have nb := Aside0.mk (below_step bel hb); clear HB; have HB := nb; clear nb; have nn := c3s (b := w.heap.size) (v0 := .float .f64 0) (v1 := .int .i64 0) (v2 := .int .i64 0) hb; clear hb; (try clear hg c0 c1 c2 f0 f1 f2); obtain ⟨c0, c1, c2, f0, f1, f2, hg⟩ := nn) | (go_at_call 68; (with_reducible refine (CK.out _).mono ?_); rintro e w1 ⟨rfl, hb⟩; have nb := Aside0.mk (below_step bel hb); clear HB; have HB := nb; clear nb; have hc := bcell hb; have hz := bfroz hb; have d0 : w1.cell? ⟨wK.heap.size, 0, none⟩ = some (.float .f64 (IntKind.u64.wrap (u - 9223372036854775808)).toNat) := (crr hc); have d1 : w1.cell? ⟨wK.heap.size, 1, none⟩ = some (.int .i64 s) := (crr hc); have d2 : w1.cell? ⟨wK.heap.size, 2, none⟩ = some (.int .i64 n) := (crr hc); have r0 : w1.frozen? ⟨w.heap.size, 0, none⟩ = false := (by rw [hz _ _ (by first | assumption | (simp; done) | (simp; omega) | omega)]; first | assumption | (go_simp; done) | (simp [*]; done)); have r1 : w1.frozen? ⟨w.heap.size, 1, none⟩ = false := (by rw [hz _ _ (by first | assumption | (simp; done) | (simp; omega) | omega)]; first | assumption | (go_simp; done) | (simp [*]; done)); have r2 : w1.frozen? ⟨w.heap.size, 2, none⟩ = false := (by rw [hz _ _ (by first | assumption | (simp; done) | (simp; omega) | omega)]; first | assumption | (go_simp; done) | (simp [*]; done)); have p0 : w1.cell? ⟨w.heap.size, 0, none⟩ = some (.float .f64 0) := (by rw [hc _ _ (by first | assumption | (simp; done) | (simp; omega) | omega)]; first | assumption | (go_simp; done) | (simp [*]; done)); have p1 : w1.cell? ⟨w.heap.size, 1, none⟩ = some (.int .i64 0) := (by rw [hc _ _ (by first | assumption | (simp; done) | (simp; omega) | omega)]; first | assumption | (go_simp; done) | (simp [*]; done)); have p2 : w1.cell? ⟨w.heap.size, 2, none⟩ = some (.int .i64 0) := (by rw [hc _ _ (by first | assumption | (simp; done) | (simp; omega) | omega)]; first | assumption | (go_simp; done) | (simp [*]; done)); clear c0; have c0 := p0; clear p0; clear c1; have c1 := p1; clear p1; clear c2; have c2 := p2; clear p2; have hg1 : w.heap.size < w1.heap.size := (by have hs := hb.size; simp at hs ⊢; omega); clear hc hz hb; clear hg; have hg := hg1; clear hg1; clear f0; have f0 := r0; clear r0; clear f1; have f1 := r1; clear r1; clear f2; have f2 := r2; clear r2))
  have hr3 := Try.results70
  refine bodyPost_ret (v := .tuple #[.agg #[.float .f64 0, .int .i64 0, .int .i64 0], .int .i64 0, .int .i64 7]) (by simp [results, Try.results70, go_sem, *]) rfl ⟨rfl, bel⟩

set_option maxRecDepth 100000 in
set_option maxHeartbeats 4000000 in
theorem read70_hne (b kk : ByteArray) (a u p e s q f n o g ke : Int) (w : World) (h1 : e ≤ 0 ∧ 0 ≤ e) (h2 : f ≤ 0 ∧ 0 ≤ f) (h3 : g ≤ 0 ∧ 0 ≤ g) (h4 : decide ((9223372036854775808 : Int) ≤ u) = true) (CU : Aside0 (Gives 49 #[.string b, .int .i64 a] (.tuple #[.int .u64 u, .int .i64 p, .int .i64 e]))) (CS : Aside0 (Gives 51 #[.string b, .int .i64 p] (.tuple #[.int .i64 s, .int .i64 q, .int .i64 f]))) (CN : Aside0 (Gives 51 #[.string b, .int .i64 q] (.tuple #[.int .i64 n, .int .i64 o, .int .i64 g]))) (CK : Aside0 (Gives 68 #[.agg #[.float .f64 (IntKind.u64.wrap (u - 9223372036854775808)).toNat, .int .i64 s, .int .i64 n]] (.tuple #[.string kk, .int .i64 ke]))) (h5 : ke ≤ 0 ∧ 0 ≤ ke) (s1 : 0 ≤ a) (s2 : a ≤ o) (s3 : o ≤ b.size) (h6 : (kk.toList == (b.extract a.toNat o.toNat).toList) = false) :
    Calls Try.prog 70 #[.string b, .int .i64 a] w fun r w' => r = .returned (.tuple #[.agg #[.float .f64 0, .int .i64 0, .int .i64 0], .int .i64 0, .int .i64 7]) ∧ Below w.heap.size w w' := by
  have hu2 := Try.underlying42
  obtain ⟨h1a, h1b⟩ := h1
  obtain ⟨h2a, h2b⟩ := h2
  obtain ⟨h3a, h3b⟩ := h3
  have hr := run104 (IntKind.u64.wrap (u - 9223372036854775808))
  have hr2 := run104 (IntKind.u64.wrap (18446744073709551615 - u))
  obtain ⟨h5a, h5b⟩ := h5
  have e1 := fun W : World => Go.run_slice_string (P := Try.prog) (w := W) 9 b .i64 .i64 a o Try.underlying9 s1 s2 s3
  clear s1 s2 s3
  have HB := Aside0.mk (Below.refl w.heap.size w)
  go_enter Try.func70, Try.ntmps70
  go_wp2_with (first | (go_at_call 49; (with_reducible refine (CU.out _).mono ?_); rintro e w1 ⟨rfl, hb⟩; have nb := Aside0.mk (below_step bel hb); clear HB; have HB := nb; clear nb; have nn := c3s (b := w.heap.size) (v0 := .float .f64 0) (v1 := .int .i64 0) (v2 := .int .i64 0) hb; clear hb; (try clear hg c0 c1 c2 f0 f1 f2); obtain ⟨c0, c1, c2, f0, f1, f2, hg⟩ := nn) | (go_at_call 51; (with_reducible refine (CS.out _).mono ?_); rintro e w1 ⟨rfl, hb⟩; have nb := Aside0.mk (below_step bel hb); clear HB; have HB := nb; clear nb; have nn := c3s (b := w.heap.size) (v0 := .float .f64 0) (v1 := .int .i64 0) (v2 := .int .i64 0) hb; clear hb; (try clear hg c0 c1 c2 f0 f1 f2); obtain ⟨c0, c1, c2, f0, f1, f2, hg⟩ := nn) | (go_at_call 51; (with_reducible refine (CN.out _).mono ?_); rintro e wK ⟨rfl, hb⟩; have nb := Aside0.mk (below_step bel hb); clear HB; have HB := nb; clear nb; have nn := c3s (b := w.heap.size) (v0 := .float .f64 0) (v1 := .int .i64 0) (v2 := .int .i64 0) hb; clear hb; (try clear hg c0 c1 c2 f0 f1 f2); obtain ⟨c0, c1, c2, f0, f1, f2, hg⟩ := nn) | (go_at_call 68; (with_reducible refine (CK.out _).mono ?_); rintro e w1 ⟨rfl, hb⟩; have nb := Aside0.mk (below_step bel hb); clear HB; have HB := nb; clear nb; have hc := bcell hb; have hz := bfroz hb; have d0 : w1.cell? ⟨wK.heap.size, 0, none⟩ = some (.float .f64 (IntKind.u64.wrap (u - 9223372036854775808)).toNat) := (crr hc); have d1 : w1.cell? ⟨wK.heap.size, 1, none⟩ = some (.int .i64 s) := (crr hc); have d2 : w1.cell? ⟨wK.heap.size, 2, none⟩ = some (.int .i64 n) := (crr hc); have r0 : w1.frozen? ⟨w.heap.size, 0, none⟩ = false := (by rw [hz _ _ (by first | assumption | (simp; done) | (simp; omega) | omega)]; first | assumption | (go_simp; done) | (simp [*]; done)); have r1 : w1.frozen? ⟨w.heap.size, 1, none⟩ = false := (by rw [hz _ _ (by first | assumption | (simp; done) | (simp; omega) | omega)]; first | assumption | (go_simp; done) | (simp [*]; done)); have r2 : w1.frozen? ⟨w.heap.size, 2, none⟩ = false := (by rw [hz _ _ (by first | assumption | (simp; done) | (simp; omega) | omega)]; first | assumption | (go_simp; done) | (simp [*]; done)); have p0 : w1.cell? ⟨w.heap.size, 0, none⟩ = some (.float .f64 0) := (by rw [hc _ _ (by first | assumption | (simp; done) | (simp; omega) | omega)]; first | assumption | (go_simp; done) | (simp [*]; done)); have p1 : w1.cell? ⟨w.heap.size, 1, none⟩ = some (.int .i64 0) := (by rw [hc _ _ (by first | assumption | (simp; done) | (simp; omega) | omega)]; first | assumption | (go_simp; done) | (simp [*]; done)); have p2 : w1.cell? ⟨w.heap.size, 2, none⟩ = some (.int .i64 0) := (by rw [hc _ _ (by first | assumption | (simp; done) | (simp; omega) | omega)]; first | assumption | (go_simp; done) | (simp [*]; done)); clear c0; have c0 := p0; clear p0; clear c1; have c1 := p1; clear p1; clear c2; have c2 := p2; clear p2; have hg1 : w.heap.size < w1.heap.size := (by have hs := hb.size; simp at hs ⊢; omega); clear hc hz hb; clear hg; have hg := hg1; clear hg1; clear f0; have f0 := r0; clear r0; clear f1; have f1 := r1; clear r1; clear f2; have f2 := r2; clear r2))
  have hr3 := Try.results70
  refine bodyPost_ret (v := .tuple #[.agg #[.float .f64 0, .int .i64 0, .int .i64 0], .int .i64 0, .int .i64 7]) (by simp [results, Try.results70, go_sem, *]) rfl ⟨rfl, bel⟩

set_option maxRecDepth 100000 in
set_option maxHeartbeats 4000000 in
theorem read70_hok (b kk : ByteArray) (a u p e s q f n o g ke : Int) (w : World) (h1 : e ≤ 0 ∧ 0 ≤ e) (h2 : f ≤ 0 ∧ 0 ≤ f) (h3 : g ≤ 0 ∧ 0 ≤ g) (h4 : decide ((9223372036854775808 : Int) ≤ u) = true) (CU : Aside0 (Gives 49 #[.string b, .int .i64 a] (.tuple #[.int .u64 u, .int .i64 p, .int .i64 e]))) (CS : Aside0 (Gives 51 #[.string b, .int .i64 p] (.tuple #[.int .i64 s, .int .i64 q, .int .i64 f]))) (CN : Aside0 (Gives 51 #[.string b, .int .i64 q] (.tuple #[.int .i64 n, .int .i64 o, .int .i64 g]))) (CK : Aside0 (Gives 68 #[.agg #[.float .f64 (IntKind.u64.wrap (u - 9223372036854775808)).toNat, .int .i64 s, .int .i64 n]] (.tuple #[.string (b.extract a.toNat o.toNat), .int .i64 ke]))) (h5 : ke ≤ 0 ∧ 0 ≤ ke) (s1 : 0 ≤ a) (s2 : a ≤ o) (s3 : o ≤ b.size) :
    Calls Try.prog 70 #[.string b, .int .i64 a] w fun r w' => r = .returned (.tuple #[.agg #[.float .f64 (IntKind.u64.wrap (u - 9223372036854775808)).toNat, .int .i64 s, .int .i64 n], .int .i64 o, .int .i64 0]) ∧ Below w.heap.size w w' := by
  have hu2 := Try.underlying42
  obtain ⟨h1a, h1b⟩ := h1
  obtain ⟨h2a, h2b⟩ := h2
  obtain ⟨h3a, h3b⟩ := h3
  have hr := run104 (IntKind.u64.wrap (u - 9223372036854775808))
  have hr2 := run104 (IntKind.u64.wrap (18446744073709551615 - u))
  obtain ⟨h5a, h5b⟩ := h5
  have e1 := fun W : World => Go.run_slice_string (P := Try.prog) (w := W) 9 b .i64 .i64 a o Try.underlying9 s1 s2 s3
  clear s1 s2 s3
  have HB := Aside0.mk (Below.refl w.heap.size w)
  go_enter Try.func70, Try.ntmps70
  go_wp2_with (first | (go_at_call 49; (with_reducible refine (CU.out _).mono ?_); rintro e w1 ⟨rfl, hb⟩; have nb := Aside0.mk (below_step bel hb); clear HB; have HB := nb; clear nb; have nn := c3s (b := w.heap.size) (v0 := .float .f64 0) (v1 := .int .i64 0) (v2 := .int .i64 0) hb; clear hb; (try clear hg c0 c1 c2 f0 f1 f2); obtain ⟨c0, c1, c2, f0, f1, f2, hg⟩ := nn) | (go_at_call 51; (with_reducible refine (CS.out _).mono ?_); rintro e w1 ⟨rfl, hb⟩; have nb := Aside0.mk (below_step bel hb); clear HB; have HB := nb; clear nb; have nn := c3s (b := w.heap.size) (v0 := .float .f64 0) (v1 := .int .i64 0) (v2 := .int .i64 0) hb; clear hb; (try clear hg c0 c1 c2 f0 f1 f2); obtain ⟨c0, c1, c2, f0, f1, f2, hg⟩ := nn) | (go_at_call 51; (with_reducible refine (CN.out _).mono ?_); rintro e wK ⟨rfl, hb⟩; have nb := Aside0.mk (below_step bel hb); clear HB; have HB := nb; clear nb; have nn := c3s (b := w.heap.size) (v0 := .float .f64 0) (v1 := .int .i64 0) (v2 := .int .i64 0) hb; clear hb; (try clear hg c0 c1 c2 f0 f1 f2); obtain ⟨c0, c1, c2, f0, f1, f2, hg⟩ := nn) | (go_at_call 68; (with_reducible refine (CK.out _).mono ?_); rintro e w1 ⟨rfl, hb⟩; have nb := Aside0.mk (below_step bel hb); clear HB; have HB := nb; clear nb; have hc := bcell hb; have hz := bfroz hb; have d0 : w1.cell? ⟨wK.heap.size, 0, none⟩ = some (.float .f64 (IntKind.u64.wrap (u - 9223372036854775808)).toNat) := (crr hc); have d1 : w1.cell? ⟨wK.heap.size, 1, none⟩ = some (.int .i64 s) := (crr hc); have d2 : w1.cell? ⟨wK.heap.size, 2, none⟩ = some (.int .i64 n) := (crr hc); have r0 : w1.frozen? ⟨w.heap.size, 0, none⟩ = false := (by rw [hz _ _ (by first | assumption | (simp; done) | (simp; omega) | omega)]; first | assumption | (go_simp; done) | (simp [*]; done)); have r1 : w1.frozen? ⟨w.heap.size, 1, none⟩ = false := (by rw [hz _ _ (by first | assumption | (simp; done) | (simp; omega) | omega)]; first | assumption | (go_simp; done) | (simp [*]; done)); have r2 : w1.frozen? ⟨w.heap.size, 2, none⟩ = false := (by rw [hz _ _ (by first | assumption | (simp; done) | (simp; omega) | omega)]; first | assumption | (go_simp; done) | (simp [*]; done)); have p0 : w1.cell? ⟨w.heap.size, 0, none⟩ = some (.float .f64 0) := (by rw [hc _ _ (by first | assumption | (simp; done) | (simp; omega) | omega)]; first | assumption | (go_simp; done) | (simp [*]; done)); have p1 : w1.cell? ⟨w.heap.size, 1, none⟩ = some (.int .i64 0) := (by rw [hc _ _ (by first | assumption | (simp; done) | (simp; omega) | omega)]; first | assumption | (go_simp; done) | (simp [*]; done)); have p2 : w1.cell? ⟨w.heap.size, 2, none⟩ = some (.int .i64 0) := (by rw [hc _ _ (by first | assumption | (simp; done) | (simp; omega) | omega)]; first | assumption | (go_simp; done) | (simp [*]; done)); clear c0; have c0 := p0; clear p0; clear c1; have c1 := p1; clear p1; clear c2; have c2 := p2; clear p2; have hg1 : w.heap.size < w1.heap.size := (by have hs := hb.size; simp at hs ⊢; omega); clear hc hz hb; clear hg; have hg := hg1; clear hg1; clear f0; have f0 := r0; clear r0; clear f1; have f1 := r1; clear r1; clear f2; have f2 := r2; clear r2))
  have hr3 := Try.results70
  refine bodyPost_ret (v := .tuple #[.agg #[.float .f64 (IntKind.u64.wrap (u - 9223372036854775808)).toNat, .int .i64 s, .int .i64 n], .int .i64 o, .int .i64 0]) (by simp [results, Try.results70, go_sem, *]) rfl ⟨rfl, bel⟩

set_option maxRecDepth 100000 in
set_option maxHeartbeats 4000000 in
theorem read70_lnan (b kk : ByteArray) (a u p e s q f n o g ke : Int) (w : World) (h1 : e ≤ 0 ∧ 0 ≤ e) (h2 : f ≤ 0 ∧ 0 ≤ f) (h3 : g ≤ 0 ∧ 0 ≤ g) (h4 : decide ((9223372036854775808 : Int) ≤ u) = false) (CU : Aside0 (Gives 49 #[.string b, .int .i64 a] (.tuple #[.int .u64 u, .int .i64 p, .int .i64 e]))) (CS : Aside0 (Gives 51 #[.string b, .int .i64 p] (.tuple #[.int .i64 s, .int .i64 q, .int .i64 f]))) (CN : Aside0 (Gives 51 #[.string b, .int .i64 q] (.tuple #[.int .i64 n, .int .i64 o, .int .i64 g]))) (CK : Aside0 (Gives 68 #[.agg #[.float .f64 (IntKind.u64.wrap (18446744073709551615 - u)).toNat, .int .i64 s, .int .i64 n]] (.tuple #[.string kk, .int .i64 ke]))) (h5 : 1 ≤ ke) :
    Calls Try.prog 70 #[.string b, .int .i64 a] w fun r w' => r = .returned (.tuple #[.agg #[.float .f64 0, .int .i64 0, .int .i64 0], .int .i64 0, .int .i64 7]) ∧ Below w.heap.size w w' := by
  have hu2 := Try.underlying42
  obtain ⟨h1a, h1b⟩ := h1
  obtain ⟨h2a, h2b⟩ := h2
  obtain ⟨h3a, h3b⟩ := h3
  have hr := run104 (IntKind.u64.wrap (u - 9223372036854775808))
  have hr2 := run104 (IntKind.u64.wrap (18446744073709551615 - u))
  have HB := Aside0.mk (Below.refl w.heap.size w)
  go_enter Try.func70, Try.ntmps70
  go_wp2_with (first | (go_at_call 49; (with_reducible refine (CU.out _).mono ?_); rintro e w1 ⟨rfl, hb⟩; have nb := Aside0.mk (below_step bel hb); clear HB; have HB := nb; clear nb; have nn := c3s (b := w.heap.size) (v0 := .float .f64 0) (v1 := .int .i64 0) (v2 := .int .i64 0) hb; clear hb; (try clear hg c0 c1 c2 f0 f1 f2); obtain ⟨c0, c1, c2, f0, f1, f2, hg⟩ := nn) | (go_at_call 51; (with_reducible refine (CS.out _).mono ?_); rintro e w1 ⟨rfl, hb⟩; have nb := Aside0.mk (below_step bel hb); clear HB; have HB := nb; clear nb; have nn := c3s (b := w.heap.size) (v0 := .float .f64 0) (v1 := .int .i64 0) (v2 := .int .i64 0) hb; clear hb; (try clear hg c0 c1 c2 f0 f1 f2); obtain ⟨c0, c1, c2, f0, f1, f2, hg⟩ := nn) | (go_at_call 51; (with_reducible refine (CN.out _).mono ?_); rintro e wK ⟨rfl, hb⟩; have nb := Aside0.mk (below_step bel hb); clear HB; have HB := nb; clear nb; have nn := c3s (b := w.heap.size) (v0 := .float .f64 0) (v1 := .int .i64 0) (v2 := .int .i64 0) hb; clear hb; (try clear hg c0 c1 c2 f0 f1 f2); obtain ⟨c0, c1, c2, f0, f1, f2, hg⟩ := nn) | (go_at_call 68; (with_reducible refine (CK.out _).mono ?_); rintro e w1 ⟨rfl, hb⟩; have nb := Aside0.mk (below_step bel hb); clear HB; have HB := nb; clear nb; have hc := bcell hb; have hz := bfroz hb; have d0 : w1.cell? ⟨wK.heap.size, 0, none⟩ = some (.float .f64 (IntKind.u64.wrap (18446744073709551615 - u)).toNat) := (crr hc); have d1 : w1.cell? ⟨wK.heap.size, 1, none⟩ = some (.int .i64 s) := (crr hc); have d2 : w1.cell? ⟨wK.heap.size, 2, none⟩ = some (.int .i64 n) := (crr hc); have r0 : w1.frozen? ⟨w.heap.size, 0, none⟩ = false := (by rw [hz _ _ (by first | assumption | (simp; done) | (simp; omega) | omega)]; first | assumption | (go_simp; done) | (simp [*]; done)); have r1 : w1.frozen? ⟨w.heap.size, 1, none⟩ = false := (by rw [hz _ _ (by first | assumption | (simp; done) | (simp; omega) | omega)]; first | assumption | (go_simp; done) | (simp [*]; done)); have r2 : w1.frozen? ⟨w.heap.size, 2, none⟩ = false := (by rw [hz _ _ (by first | assumption | (simp; done) | (simp; omega) | omega)]; first | assumption | (go_simp; done) | (simp [*]; done)); have p0 : w1.cell? ⟨w.heap.size, 0, none⟩ = some (.float .f64 0) := (by rw [hc _ _ (by first | assumption | (simp; done) | (simp; omega) | omega)]; first | assumption | (go_simp; done) | (simp [*]; done)); have p1 : w1.cell? ⟨w.heap.size, 1, none⟩ = some (.int .i64 0) := (by rw [hc _ _ (by first | assumption | (simp; done) | (simp; omega) | omega)]; first | assumption | (go_simp; done) | (simp [*]; done)); have p2 : w1.cell? ⟨w.heap.size, 2, none⟩ = some (.int .i64 0) := (by rw [hc _ _ (by first | assumption | (simp; done) | (simp; omega) | omega)]; first | assumption | (go_simp; done) | (simp [*]; done)); clear c0; have c0 := p0; clear p0; clear c1; have c1 := p1; clear p1; clear c2; have c2 := p2; clear p2; have hg1 : w.heap.size < w1.heap.size := (by have hs := hb.size; simp at hs ⊢; omega); clear hc hz hb; clear hg; have hg := hg1; clear hg1; clear f0; have f0 := r0; clear r0; clear f1; have f1 := r1; clear r1; clear f2; have f2 := r2; clear r2))
  have hr3 := Try.results70
  refine bodyPost_ret (v := .tuple #[.agg #[.float .f64 0, .int .i64 0, .int .i64 0], .int .i64 0, .int .i64 7]) (by simp [results, Try.results70, go_sem, *]) rfl ⟨rfl, bel⟩

set_option maxRecDepth 100000 in
set_option maxHeartbeats 4000000 in
theorem read70_lne (b kk : ByteArray) (a u p e s q f n o g ke : Int) (w : World) (h1 : e ≤ 0 ∧ 0 ≤ e) (h2 : f ≤ 0 ∧ 0 ≤ f) (h3 : g ≤ 0 ∧ 0 ≤ g) (h4 : decide ((9223372036854775808 : Int) ≤ u) = false) (CU : Aside0 (Gives 49 #[.string b, .int .i64 a] (.tuple #[.int .u64 u, .int .i64 p, .int .i64 e]))) (CS : Aside0 (Gives 51 #[.string b, .int .i64 p] (.tuple #[.int .i64 s, .int .i64 q, .int .i64 f]))) (CN : Aside0 (Gives 51 #[.string b, .int .i64 q] (.tuple #[.int .i64 n, .int .i64 o, .int .i64 g]))) (CK : Aside0 (Gives 68 #[.agg #[.float .f64 (IntKind.u64.wrap (18446744073709551615 - u)).toNat, .int .i64 s, .int .i64 n]] (.tuple #[.string kk, .int .i64 ke]))) (h5 : ke ≤ 0 ∧ 0 ≤ ke) (s1 : 0 ≤ a) (s2 : a ≤ o) (s3 : o ≤ b.size) (h6 : (kk.toList == (b.extract a.toNat o.toNat).toList) = false) :
    Calls Try.prog 70 #[.string b, .int .i64 a] w fun r w' => r = .returned (.tuple #[.agg #[.float .f64 0, .int .i64 0, .int .i64 0], .int .i64 0, .int .i64 7]) ∧ Below w.heap.size w w' := by
  have hu2 := Try.underlying42
  obtain ⟨h1a, h1b⟩ := h1
  obtain ⟨h2a, h2b⟩ := h2
  obtain ⟨h3a, h3b⟩ := h3
  have hr := run104 (IntKind.u64.wrap (u - 9223372036854775808))
  have hr2 := run104 (IntKind.u64.wrap (18446744073709551615 - u))
  obtain ⟨h5a, h5b⟩ := h5
  have e1 := fun W : World => Go.run_slice_string (P := Try.prog) (w := W) 9 b .i64 .i64 a o Try.underlying9 s1 s2 s3
  clear s1 s2 s3
  have HB := Aside0.mk (Below.refl w.heap.size w)
  go_enter Try.func70, Try.ntmps70
  go_wp2_with (first | (go_at_call 49; (with_reducible refine (CU.out _).mono ?_); rintro e w1 ⟨rfl, hb⟩; have nb := Aside0.mk (below_step bel hb); clear HB; have HB := nb; clear nb; have nn := c3s (b := w.heap.size) (v0 := .float .f64 0) (v1 := .int .i64 0) (v2 := .int .i64 0) hb; clear hb; (try clear hg c0 c1 c2 f0 f1 f2); obtain ⟨c0, c1, c2, f0, f1, f2, hg⟩ := nn) | (go_at_call 51; (with_reducible refine (CS.out _).mono ?_); rintro e w1 ⟨rfl, hb⟩; have nb := Aside0.mk (below_step bel hb); clear HB; have HB := nb; clear nb; have nn := c3s (b := w.heap.size) (v0 := .float .f64 0) (v1 := .int .i64 0) (v2 := .int .i64 0) hb; clear hb; (try clear hg c0 c1 c2 f0 f1 f2); obtain ⟨c0, c1, c2, f0, f1, f2, hg⟩ := nn) | (go_at_call 51; (with_reducible refine (CN.out _).mono ?_); rintro e wK ⟨rfl, hb⟩; have nb := Aside0.mk (below_step bel hb); clear HB; have HB := nb; clear nb; have nn := c3s (b := w.heap.size) (v0 := .float .f64 0) (v1 := .int .i64 0) (v2 := .int .i64 0) hb; clear hb; (try clear hg c0 c1 c2 f0 f1 f2); obtain ⟨c0, c1, c2, f0, f1, f2, hg⟩ := nn) | (go_at_call 68; (with_reducible refine (CK.out _).mono ?_); rintro e w1 ⟨rfl, hb⟩; have nb := Aside0.mk (below_step bel hb); clear HB; have HB := nb; clear nb; have hc := bcell hb; have hz := bfroz hb; have d0 : w1.cell? ⟨wK.heap.size, 0, none⟩ = some (.float .f64 (IntKind.u64.wrap (18446744073709551615 - u)).toNat) := (crr hc); have d1 : w1.cell? ⟨wK.heap.size, 1, none⟩ = some (.int .i64 s) := (crr hc); have d2 : w1.cell? ⟨wK.heap.size, 2, none⟩ = some (.int .i64 n) := (crr hc); have r0 : w1.frozen? ⟨w.heap.size, 0, none⟩ = false := (by rw [hz _ _ (by first | assumption | (simp; done) | (simp; omega) | omega)]; first | assumption | (go_simp; done) | (simp [*]; done)); have r1 : w1.frozen? ⟨w.heap.size, 1, none⟩ = false := (by rw [hz _ _ (by first | assumption | (simp; done) | (simp; omega) | omega)]; first | assumption | (go_simp; done) | (simp [*]; done)); have r2 : w1.frozen? ⟨w.heap.size, 2, none⟩ = false := (by rw [hz _ _ (by first | assumption | (simp; done) | (simp; omega) | omega)]; first | assumption | (go_simp; done) | (simp [*]; done)); have p0 : w1.cell? ⟨w.heap.size, 0, none⟩ = some (.float .f64 0) := (by rw [hc _ _ (by first | assumption | (simp; done) | (simp; omega) | omega)]; first | assumption | (go_simp; done) | (simp [*]; done)); have p1 : w1.cell? ⟨w.heap.size, 1, none⟩ = some (.int .i64 0) := (by rw [hc _ _ (by first | assumption | (simp; done) | (simp; omega) | omega)]; first | assumption | (go_simp; done) | (simp [*]; done)); have p2 : w1.cell? ⟨w.heap.size, 2, none⟩ = some (.int .i64 0) := (by rw [hc _ _ (by first | assumption | (simp; done) | (simp; omega) | omega)]; first | assumption | (go_simp; done) | (simp [*]; done)); clear c0; have c0 := p0; clear p0; clear c1; have c1 := p1; clear p1; clear c2; have c2 := p2; clear p2; have hg1 : w.heap.size < w1.heap.size := (by have hs := hb.size; simp at hs ⊢; omega); clear hc hz hb; clear hg; have hg := hg1; clear hg1; clear f0; have f0 := r0; clear r0; clear f1; have f1 := r1; clear r1; clear f2; have f2 := r2; clear r2))
  have hr3 := Try.results70
  refine bodyPost_ret (v := .tuple #[.agg #[.float .f64 0, .int .i64 0, .int .i64 0], .int .i64 0, .int .i64 7]) (by simp [results, Try.results70, go_sem, *]) rfl ⟨rfl, bel⟩

set_option maxRecDepth 100000 in
set_option maxHeartbeats 4000000 in
theorem read70_lok (b kk : ByteArray) (a u p e s q f n o g ke : Int) (w : World) (h1 : e ≤ 0 ∧ 0 ≤ e) (h2 : f ≤ 0 ∧ 0 ≤ f) (h3 : g ≤ 0 ∧ 0 ≤ g) (h4 : decide ((9223372036854775808 : Int) ≤ u) = false) (CU : Aside0 (Gives 49 #[.string b, .int .i64 a] (.tuple #[.int .u64 u, .int .i64 p, .int .i64 e]))) (CS : Aside0 (Gives 51 #[.string b, .int .i64 p] (.tuple #[.int .i64 s, .int .i64 q, .int .i64 f]))) (CN : Aside0 (Gives 51 #[.string b, .int .i64 q] (.tuple #[.int .i64 n, .int .i64 o, .int .i64 g]))) (CK : Aside0 (Gives 68 #[.agg #[.float .f64 (IntKind.u64.wrap (18446744073709551615 - u)).toNat, .int .i64 s, .int .i64 n]] (.tuple #[.string (b.extract a.toNat o.toNat), .int .i64 ke]))) (h5 : ke ≤ 0 ∧ 0 ≤ ke) (s1 : 0 ≤ a) (s2 : a ≤ o) (s3 : o ≤ b.size) :
    Calls Try.prog 70 #[.string b, .int .i64 a] w fun r w' => r = .returned (.tuple #[.agg #[.float .f64 (IntKind.u64.wrap (18446744073709551615 - u)).toNat, .int .i64 s, .int .i64 n], .int .i64 o, .int .i64 0]) ∧ Below w.heap.size w w' := by
  have hu2 := Try.underlying42
  obtain ⟨h1a, h1b⟩ := h1
  obtain ⟨h2a, h2b⟩ := h2
  obtain ⟨h3a, h3b⟩ := h3
  have hr := run104 (IntKind.u64.wrap (u - 9223372036854775808))
  have hr2 := run104 (IntKind.u64.wrap (18446744073709551615 - u))
  obtain ⟨h5a, h5b⟩ := h5
  have e1 := fun W : World => Go.run_slice_string (P := Try.prog) (w := W) 9 b .i64 .i64 a o Try.underlying9 s1 s2 s3
  clear s1 s2 s3
  have HB := Aside0.mk (Below.refl w.heap.size w)
  go_enter Try.func70, Try.ntmps70
  go_wp2_with (first | (go_at_call 49; (with_reducible refine (CU.out _).mono ?_); rintro e w1 ⟨rfl, hb⟩; have nb := Aside0.mk (below_step bel hb); clear HB; have HB := nb; clear nb; have nn := c3s (b := w.heap.size) (v0 := .float .f64 0) (v1 := .int .i64 0) (v2 := .int .i64 0) hb; clear hb; (try clear hg c0 c1 c2 f0 f1 f2); obtain ⟨c0, c1, c2, f0, f1, f2, hg⟩ := nn) | (go_at_call 51; (with_reducible refine (CS.out _).mono ?_); rintro e w1 ⟨rfl, hb⟩; have nb := Aside0.mk (below_step bel hb); clear HB; have HB := nb; clear nb; have nn := c3s (b := w.heap.size) (v0 := .float .f64 0) (v1 := .int .i64 0) (v2 := .int .i64 0) hb; clear hb; (try clear hg c0 c1 c2 f0 f1 f2); obtain ⟨c0, c1, c2, f0, f1, f2, hg⟩ := nn) | (go_at_call 51; (with_reducible refine (CN.out _).mono ?_); rintro e wK ⟨rfl, hb⟩; have nb := Aside0.mk (below_step bel hb); clear HB; have HB := nb; clear nb; have nn := c3s (b := w.heap.size) (v0 := .float .f64 0) (v1 := .int .i64 0) (v2 := .int .i64 0) hb; clear hb; (try clear hg c0 c1 c2 f0 f1 f2); obtain ⟨c0, c1, c2, f0, f1, f2, hg⟩ := nn) | (go_at_call 68; (with_reducible refine (CK.out _).mono ?_); rintro e w1 ⟨rfl, hb⟩; have nb := Aside0.mk (below_step bel hb); clear HB; have HB := nb; clear nb; have hc := bcell hb; have hz := bfroz hb; have d0 : w1.cell? ⟨wK.heap.size, 0, none⟩ = some (.float .f64 (IntKind.u64.wrap (18446744073709551615 - u)).toNat) := (crr hc); have d1 : w1.cell? ⟨wK.heap.size, 1, none⟩ = some (.int .i64 s) := (crr hc); have d2 : w1.cell? ⟨wK.heap.size, 2, none⟩ = some (.int .i64 n) := (crr hc); have r0 : w1.frozen? ⟨w.heap.size, 0, none⟩ = false := (by rw [hz _ _ (by first | assumption | (simp; done) | (simp; omega) | omega)]; first | assumption | (go_simp; done) | (simp [*]; done)); have r1 : w1.frozen? ⟨w.heap.size, 1, none⟩ = false := (by rw [hz _ _ (by first | assumption | (simp; done) | (simp; omega) | omega)]; first | assumption | (go_simp; done) | (simp [*]; done)); have r2 : w1.frozen? ⟨w.heap.size, 2, none⟩ = false := (by rw [hz _ _ (by first | assumption | (simp; done) | (simp; omega) | omega)]; first | assumption | (go_simp; done) | (simp [*]; done)); have p0 : w1.cell? ⟨w.heap.size, 0, none⟩ = some (.float .f64 0) := (by rw [hc _ _ (by first | assumption | (simp; done) | (simp; omega) | omega)]; first | assumption | (go_simp; done) | (simp [*]; done)); have p1 : w1.cell? ⟨w.heap.size, 1, none⟩ = some (.int .i64 0) := (by rw [hc _ _ (by first | assumption | (simp; done) | (simp; omega) | omega)]; first | assumption | (go_simp; done) | (simp [*]; done)); have p2 : w1.cell? ⟨w.heap.size, 2, none⟩ = some (.int .i64 0) := (by rw [hc _ _ (by first | assumption | (simp; done) | (simp; omega) | omega)]; first | assumption | (go_simp; done) | (simp [*]; done)); clear c0; have c0 := p0; clear p0; clear c1; have c1 := p1; clear p1; clear c2; have c2 := p2; clear p2; have hg1 : w.heap.size < w1.heap.size := (by have hs := hb.size; simp at hs ⊢; omega); clear hc hz hb; clear hg; have hg := hg1; clear hg1; clear f0; have f0 := r0; clear r0; clear f1; have f1 := r1; clear r1; clear f2; have f2 := r2; clear r2))
  have hr3 := Try.results70
  refine bodyPost_ret (v := .tuple #[.agg #[.float .f64 (IntKind.u64.wrap (18446744073709551615 - u)).toNat, .int .i64 s, .int .i64 n], .int .i64 o, .int .i64 0]) (by simp [results, Try.results70, go_sem, *]) rfl ⟨rfl, bel⟩

end Go.Proofs.Ytlbjcdfognofgaa.StampR
