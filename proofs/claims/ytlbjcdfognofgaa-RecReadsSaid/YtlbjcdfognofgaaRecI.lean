/- May events be: the reference; what was handled, laid. -/
import Derived.Test.YtlbjcdfognofgaaRecF
import Derived.Deep.DrawnRows
import Derived.Deep.RegionHeld3
namespace Go.Proofs.Ytlbjcdfognofgaa.RecI
open Go.RowKit Go.Proofs.YtlbjcdfognofgaaW.PrintWords Go.Proofs.YtlbjcdfognofgaaW.PrintLast Go.Proofs.YtlbjcdfognofgaaW.PrintMore Go.Proofs.Ytlbjcdfognofgaa.Be Go.Proofs.Ytlbjcdfognofgaa.Fl Go.Proofs.Ytlbjcdfognofgaa.StampA Go.Proofs.Ytlbjcdfognofgaa.StampB Go.Proofs.Ytlbjcdfognofgaa.StampC Go.Proofs.Ytlbjcdfognofgaa.StampD Go.Proofs.Ytlbjcdfognofgaa.StampK Go.Proofs.Ytlbjcdfognofgaa.SRec Go.Proofs.Ytlbjcdfognofgaa.StampQ Go.Proofs.Ytlbjcdfognofgaa.StampR Go.Proofs.Ytlbjcdfognofgaa.Wk Go.Proofs.Ytlbjcdfognofgaa.RecA Go.Proofs.Ytlbjcdfognofgaa.RecB Go.Proofs.Ytlbjcdfognofgaa.RecC Go.Proofs.Ytlbjcdfognofgaa.RecD Go.Proofs.Ytlbjcdfognofgaa.RecE Go.Proofs.Ytlbjcdfognofgaa.RecF Go.Proofs.Ytlbjcdfognofgaa.PRecStates
attribute [local go_sem ↓] Go.wp_at_zero Go.wp_at_succ
attribute [local go_sem] run_store_float
set_option linter.unusedVariables false


set_option maxRecDepth 100000 in
set_option maxHeartbeats 4000000 in
theorem right57_calls (t : Nat) (s n d p : Int) (w : World) :
    Calls Try.prog 57 #[.agg #[.float .f64 t, .int .i64 s, .int .i64 n, .int .i64 d, .int .i64 p]] w fun e w' => e = .returned (.bool (rightB t s n d)) ∧ Below w.heap.size w w' := by
  have hu2 := Try.underlying42
  have hu3 := Try.underlying68
  have HB := Aside0.mk (Below.refl w.heap.size w)
  have hnn : rightB t s n d = (!nanb t && decide (-1 ≤ s) && decide (s < 6) && decide (0 ≤ n) && decide (n ≤ 1099511627776) && decide (0 ≤ d) && decide (d < 6)) := rfl
  have e3 : decide (s < 6) = decide (s ≤ 5) := by rw [decide_eq_decide]; omega
  have e7 : decide (d < 6) = decide (d ≤ 5) := by rw [decide_eq_decide]; omega
  rw [e3, e7] at hnn
  rw [hnn]
  clear hnn e3 e7
  have hs := self_eq t
  generalize nanb t = b1 at *
  generalize h2 : decide (-1 ≤ s) = b2 at *
  generalize h3 : decide (s ≤ 5) = b3 at *
  generalize h4 : decide (0 ≤ n) = b4 at *
  generalize h5 : decide (n ≤ 1099511627776) = b5 at *
  generalize h6 : decide (0 ≤ d) = b6 at *
  generalize h7 : decide (d ≤ 5) = b7 at *
  rcases b1 with _ | _
  · rcases b2 with _ | _
    · (have hs' := hs; (first | simp only [Bool.not_false] at hs' | simp only [Bool.not_true] at hs'); clear hs; go_enter Try.func57, Try.ntmps57; go_wp2_with fail; go_ret; exact ⟨by first | rfl | simp, bel⟩)
    · rcases b3 with _ | _
      · (have hs' := hs; (first | simp only [Bool.not_false] at hs' | simp only [Bool.not_true] at hs'); clear hs; go_enter Try.func57, Try.ntmps57; go_wp2_with fail; go_ret; exact ⟨by first | rfl | simp, bel⟩)
      · rcases b4 with _ | _
        · (have hs' := hs; (first | simp only [Bool.not_false] at hs' | simp only [Bool.not_true] at hs'); clear hs; go_enter Try.func57, Try.ntmps57; go_wp2_with fail; go_ret; exact ⟨by first | rfl | simp, bel⟩)
        · rcases b5 with _ | _
          · (have hs' := hs; (first | simp only [Bool.not_false] at hs' | simp only [Bool.not_true] at hs'); clear hs; go_enter Try.func57, Try.ntmps57; go_wp2_with fail; go_ret; exact ⟨by first | rfl | simp, bel⟩)
          · rcases b6 with _ | _
            · (have hs' := hs; (first | simp only [Bool.not_false] at hs' | simp only [Bool.not_true] at hs'); clear hs; go_enter Try.func57, Try.ntmps57; go_wp2_with fail; go_ret; exact ⟨by first | rfl | simp, bel⟩)
            · rcases b7 with _ | _
              · (have hs' := hs; (first | simp only [Bool.not_false] at hs' | simp only [Bool.not_true] at hs'); clear hs; go_enter Try.func57, Try.ntmps57; go_wp2_with fail; go_ret; exact ⟨by first | rfl | simp, bel⟩)
              · (have hs' := hs; (first | simp only [Bool.not_false] at hs' | simp only [Bool.not_true] at hs'); clear hs; go_enter Try.func57, Try.ntmps57; go_wp2_with fail; go_ret; exact ⟨by first | rfl | simp, bel⟩)
  · (have hs' := hs; (first | simp only [Bool.not_false] at hs' | simp only [Bool.not_true] at hs'); clear hs; go_enter Try.func57, Try.ntmps57; go_wp2_with fail; go_ret; exact ⟨by first | rfl | simp, bel⟩)


set_option maxRecDepth 100000 in
set_option maxHeartbeats 4000000 in
theorem done_bad (t : Nat) (s n d p f : Int) (A : ByteArray) (e : Int) (w : World) (za : A.size ≤ 100)
    (CA : Aside0 (∀ w, Calls Try.prog 58 #[.agg #[.float .f64 t, .int .i64 s, .int .i64 n, .int .i64 d, .int .i64 p]] w fun r w' => r = .returned (.tuple #[.string A, .int .i64 e]) ∧ Below w.heap.size w w'))
    (hc : 1 ≤ e) :
    Calls Try.prog 60 #[.agg #[.float .f64 t, .int .i64 s, .int .i64 n, .int .i64 d, .int .i64 p, .int .i64 f]] w fun e w' => e = .returned (.tuple #[.string (⟨#[]⟩), .int .i64 2]) ∧ Below w.heap.size w w' := by
  have hu2 := Try.underlying42
  have hu3 := Try.underlying68
  have hu4 := Try.underlying73
  have s1 : ¬ 9223372036854775807 < A.size + (strOfNums [f]).size := by have := z1 f; omega
  clear za
  skip
  have HB := Aside0.mk (below_alloc (Below.refl w.heap.size w) (.cells #[.float .f64 t, .int .i64 s, .int .i64 n, .int .i64 d, .int .i64 p, .int .i64 f] 73))
  have HF := Aside0.mk (Blk.new w 73 #[.float .f64 t, .int .i64 s, .int .i64 n, .int .i64 d, .int .i64 p, .int .i64 f])
  go_enter Try.func60, Try.ntmps60
  go_wp2_with fail
  refine (CA.out _).mono ?_
  rintro e w1 ⟨rfl, hk⟩
  replace HF : Aside0 (Blk w1 (w.heap.size) 73 #[.float .f64 t, .int .i64 s, .int .i64 n, .int .i64 d, .int .i64 p, .int .i64 f]) := ⟨Blk.step blk hk⟩
  replace HB := Aside0.mk (below_step bel hk)
  have hsw1 := hk.size
  try simp at hsw1
  clear hk
  obtain ⟨cF0, cF1, cF2, cF3, cF4, cF5, fF⟩ := HF.out.c6
  go_wp2_with fail
  go_ret2
  exact ⟨rfl, bel⟩


set_option maxRecDepth 100000 in
set_option maxHeartbeats 4000000 in
theorem done_neg (t : Nat) (s n d p f : Int) (A : ByteArray) (e : Int) (w : World) (za : A.size ≤ 100)
    (CA : Aside0 (∀ w, Calls Try.prog 58 #[.agg #[.float .f64 t, .int .i64 s, .int .i64 n, .int .i64 d, .int .i64 p]] w fun r w' => r = .returned (.tuple #[.string A, .int .i64 e]) ∧ Below w.heap.size w w'))
    (hc : (e ≤ 0 ∧ 0 ≤ e) ∧ decide (f < 0) = true) :
    Calls Try.prog 60 #[.agg #[.float .f64 t, .int .i64 s, .int .i64 n, .int .i64 d, .int .i64 p, .int .i64 f]] w fun e w' => e = .returned (.tuple #[.string (⟨#[]⟩), .int .i64 2]) ∧ Below w.heap.size w w' := by
  have hu2 := Try.underlying42
  have hu3 := Try.underlying68
  have hu4 := Try.underlying73
  have s1 : ¬ 9223372036854775807 < A.size + (strOfNums [f]).size := by have := z1 f; omega
  clear za
  obtain ⟨⟨k1, k2⟩, k3⟩ := hc
  have HB := Aside0.mk (below_alloc (Below.refl w.heap.size w) (.cells #[.float .f64 t, .int .i64 s, .int .i64 n, .int .i64 d, .int .i64 p, .int .i64 f] 73))
  have HF := Aside0.mk (Blk.new w 73 #[.float .f64 t, .int .i64 s, .int .i64 n, .int .i64 d, .int .i64 p, .int .i64 f])
  go_enter Try.func60, Try.ntmps60
  go_wp2_with fail
  refine (CA.out _).mono ?_
  rintro e w1 ⟨rfl, hk⟩
  replace HF : Aside0 (Blk w1 (w.heap.size) 73 #[.float .f64 t, .int .i64 s, .int .i64 n, .int .i64 d, .int .i64 p, .int .i64 f]) := ⟨Blk.step blk hk⟩
  replace HB := Aside0.mk (below_step bel hk)
  have hsw1 := hk.size
  try simp at hsw1
  clear hk
  obtain ⟨cF0, cF1, cF2, cF3, cF4, cF5, fF⟩ := HF.out.c6
  go_wp2_with fail
  go_ret2
  exact ⟨rfl, bel⟩


set_option maxRecDepth 100000 in
set_option maxHeartbeats 4000000 in
theorem done_big (t : Nat) (s n d p f : Int) (A : ByteArray) (e : Int) (w : World) (za : A.size ≤ 100)
    (CA : Aside0 (∀ w, Calls Try.prog 58 #[.agg #[.float .f64 t, .int .i64 s, .int .i64 n, .int .i64 d, .int .i64 p]] w fun r w' => r = .returned (.tuple #[.string A, .int .i64 e]) ∧ Below w.heap.size w w'))
    (hc : (e ≤ 0 ∧ 0 ≤ e) ∧ decide (f < 0) = false ∧ decide (7 < f) = true) :
    Calls Try.prog 60 #[.agg #[.float .f64 t, .int .i64 s, .int .i64 n, .int .i64 d, .int .i64 p, .int .i64 f]] w fun e w' => e = .returned (.tuple #[.string (⟨#[]⟩), .int .i64 2]) ∧ Below w.heap.size w w' := by
  have hu2 := Try.underlying42
  have hu3 := Try.underlying68
  have hu4 := Try.underlying73
  have s1 : ¬ 9223372036854775807 < A.size + (strOfNums [f]).size := by have := z1 f; omega
  clear za
  obtain ⟨⟨k1, k2⟩, k3, k4⟩ := hc
  have HB := Aside0.mk (below_alloc (Below.refl w.heap.size w) (.cells #[.float .f64 t, .int .i64 s, .int .i64 n, .int .i64 d, .int .i64 p, .int .i64 f] 73))
  have HF := Aside0.mk (Blk.new w 73 #[.float .f64 t, .int .i64 s, .int .i64 n, .int .i64 d, .int .i64 p, .int .i64 f])
  go_enter Try.func60, Try.ntmps60
  go_wp2_with fail
  refine (CA.out _).mono ?_
  rintro e w1 ⟨rfl, hk⟩
  replace HF : Aside0 (Blk w1 (w.heap.size) 73 #[.float .f64 t, .int .i64 s, .int .i64 n, .int .i64 d, .int .i64 p, .int .i64 f]) := ⟨Blk.step blk hk⟩
  replace HB := Aside0.mk (below_step bel hk)
  have hsw1 := hk.size
  try simp at hsw1
  clear hk
  obtain ⟨cF0, cF1, cF2, cF3, cF4, cF5, fF⟩ := HF.out.c6
  go_wp2_with fail
  go_ret2
  exact ⟨rfl, bel⟩


set_option maxRecDepth 100000 in
set_option maxHeartbeats 4000000 in
theorem done_ok (t : Nat) (s n d p f : Int) (A : ByteArray) (e : Int) (w : World) (za : A.size ≤ 100)
    (CA : Aside0 (∀ w, Calls Try.prog 58 #[.agg #[.float .f64 t, .int .i64 s, .int .i64 n, .int .i64 d, .int .i64 p]] w fun r w' => r = .returned (.tuple #[.string A, .int .i64 e]) ∧ Below w.heap.size w w'))
    (hc : (e ≤ 0 ∧ 0 ≤ e) ∧ decide (f < 0) = false ∧ decide (7 < f) = false) (hf : 0 ≤ f ∧ f ≤ 7) :
    Calls Try.prog 60 #[.agg #[.float .f64 t, .int .i64 s, .int .i64 n, .int .i64 d, .int .i64 p, .int .i64 f]] w fun e w' => e = .returned (.tuple #[.string (A ++ strOfNums [f]), .int .i64 0]) ∧ Below w.heap.size w w' := by
  have hu2 := Try.underlying42
  have hu3 := Try.underlying68
  have hu4 := Try.underlying73
  have s1 : ¬ 9223372036854775807 < A.size + (strOfNums [f]).size := by have := z1 f; omega
  clear za
  obtain ⟨⟨k1, k2⟩, k3, k4⟩ := hc
  have CO := Aside0.mk (fun w => one_calls f (by omega) w)
  clear hf
  have HB := Aside0.mk (below_alloc (Below.refl w.heap.size w) (.cells #[.float .f64 t, .int .i64 s, .int .i64 n, .int .i64 d, .int .i64 p, .int .i64 f] 73))
  have HF := Aside0.mk (Blk.new w 73 #[.float .f64 t, .int .i64 s, .int .i64 n, .int .i64 d, .int .i64 p, .int .i64 f])
  go_enter Try.func60, Try.ntmps60
  go_wp2_with fail
  refine (CA.out _).mono ?_
  rintro e w1 ⟨rfl, hk⟩
  replace HF : Aside0 (Blk w1 (w.heap.size) 73 #[.float .f64 t, .int .i64 s, .int .i64 n, .int .i64 d, .int .i64 p, .int .i64 f]) := ⟨Blk.step blk hk⟩
  replace HB := Aside0.mk (below_step bel hk)
  have hsw1 := hk.size
  try simp at hsw1
  clear hk
  obtain ⟨cF0, cF1, cF2, cF3, cF4, cF5, fF⟩ := HF.out.c6
  go_wp2_with fail
  clear cF0 cF1 cF2 cF3 cF4 cF5 fF
  refine (CO.out _).mono ?_
  rintro e w2 ⟨rfl, hk⟩
  replace HF : Aside0 (Blk w2 (w.heap.size) 73 #[.float .f64 t, .int .i64 s, .int .i64 n, .int .i64 d, .int .i64 p, .int .i64 f]) := ⟨Blk.step blk hk⟩
  replace HB := Aside0.mk (below_step bel hk)
  have hsw2 := hk.size
  try simp at hsw2
  clear hk
  obtain ⟨cF0, cF1, cF2, cF3, cF4, cF5, fF⟩ := HF.out.c6
  go_wp2_with fail
  go_ret2
  exact ⟨rfl, bel⟩


/-- The bytes of what was handled. -/
def dnS (t : Nat) (s n d p f : Int) : ByteArray × Int := if rightB t s n d = true ∧ 0 ≤ f ∧ f ≤ 7 then (evS t s n d p ++ strOfNums [f], 0) else (⟨#[]⟩, 2)

theorem evS_size (t : Nat) (s n d p : Int) : (evS t s n d p).size = 26 := by
  simp only [evS, ByteArray.size_append, size_strOfNums]; rfl

theorem done_calls (t : Nat) (s n d p f : Int) (ht : t < 18446744073709551616) (hp : -9223372036854775808 ≤ p ∧ p < 9223372036854775808) (w : World) :
    Calls Try.prog 60 #[.agg #[.float .f64 t, .int .i64 s, .int .i64 n, .int .i64 d, .int .i64 p, .int .i64 f]] w fun e w' => e = .returned (.tuple #[.string (dnS t s n d p f).1, .int .i64 (dnS t s n d p f).2]) ∧ Below w.heap.size w w' := by
  have CA := fun w => put_calls t s n d p ht hp w
  by_cases hr : rightB t s n d = true
  · rw [if_pos hr, if_pos hr] at CA
    have hz := evS_size t s n d p
    by_cases h0 : 0 ≤ f
    · by_cases h7 : f ≤ 7
      · rw [show dnS t s n d p f = (evS t s n d p ++ strOfNums [f], 0) from if_pos ⟨hr, h0, h7⟩]
        exact done_ok t s n d p f _ 0 w (by omega) ⟨CA⟩ ⟨⟨Int.le_refl 0, Int.le_refl 0⟩, decide_eq_false (by omega), decide_eq_false (by omega)⟩ ⟨h0, h7⟩
      · rw [show dnS t s n d p f = (⟨#[]⟩, 2) from if_neg fun h => h7 h.2.2]
        exact done_big t s n d p f _ 0 w (by omega) ⟨CA⟩ ⟨⟨Int.le_refl 0, Int.le_refl 0⟩, decide_eq_false (by omega), decide_eq_true (by omega)⟩
    · rw [show dnS t s n d p f = (⟨#[]⟩, 2) from if_neg fun h => h0 h.2.1]
      exact done_neg t s n d p f _ 0 w (by omega) ⟨CA⟩ ⟨⟨Int.le_refl 0, Int.le_refl 0⟩, decide_eq_true (by omega)⟩
  · rw [if_neg hr, if_neg hr] at CA
    rw [show dnS t s n d p f = (⟨#[]⟩, 2) from if_neg fun h => hr h.1]
    exact done_bad t s n d p f _ 2 w (by decide) ⟨CA⟩ (by decide)

end Go.Proofs.Ytlbjcdfognofgaa.RecI
