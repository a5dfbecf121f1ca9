/- RecBack: what was laid is read as it was; the walks of an event that may not be. (Texts in one: RecI, RecQ, BackN.) -/
import Derived.Test.YtlbjcdfognofgaaRecF
import Derived.Deep.DrawnRows
import Derived.Deep.RegionHeld3
import Derived.Test.YtlbjcdfognofgaaRecO

namespace Go.Proofs.Ytlbjcdfognofgaa.RecI
open Go.RowKit Go.Proofs.YtlbjcdfognofgaaW.PrintWords Go.Proofs.YtlbjcdfognofgaaW.PrintLast Go.Proofs.YtlbjcdfognofgaaW.PrintMore Go.Proofs.Ytlbjcdfognofgaa.Be Go.Proofs.Ytlbjcdfognofgaa.Fl Go.Proofs.Ytlbjcdfognofgaa.StampA Go.Proofs.Ytlbjcdfognofgaa.StampB Go.Proofs.Ytlbjcdfognofgaa.StampC Go.Proofs.Ytlbjcdfognofgaa.StampD Go.Proofs.Ytlbjcdfognofgaa.StampK Go.Proofs.Ytlbjcdfognofgaa.SRec Go.Proofs.Ytlbjcdfognofgaa.StampQ Go.Proofs.Ytlbjcdfognofgaa.StampR Go.Proofs.Ytlbjcdfognofgaa.Wk Go.Proofs.Ytlbjcdfognofgaa.RecA Go.Proofs.Ytlbjcdfognofgaa.RecB Go.Proofs.Ytlbjcdfognofgaa.RecC Go.Proofs.Ytlbjcdfognofgaa.RecD Go.Proofs.Ytlbjcdfognofgaa.RecE Go.Proofs.Ytlbjcdfognofgaa.RecF Go.Proofs.Ytlbjcdfognofgaa.PRecStates
attribute [local go_sem ↓] Go.wp_at_zero Go.wp_at_succ
attribute [local go_sem] run_store_float
set_option linter.unusedVariables false


set_option maxRecDepth 100000 in
set_option maxHeartbeats 4000000 in
theorem right57_calls (t : Nat) (s n d p : Int) (w : World) :
    Calls Try.prog 57 #[.agg #[.float .f64 t, .int .i64 s, .int .i64 n, .int .i64 d, .int .i64 p]] w fun e w' => e = .returned (.bool (rightB t s n d)) ∧ Below w.heap.size w w' := by
  have hu2 := Try.underlying42
  have hu3 := Try.underlying68
  have HB := Aside0.mk (Below.refl w.heap.size w)
  have hnn : rightB t s n d = (!nanb t && decide (-1 ≤ s) && decide (s < 6) && decide (0 ≤ n) && decide (n ≤ 1099511627776) && decide (0 ≤ d) && decide (d < 6)) := rfl
  have e3 : decide (s < 6) = decide (s ≤ 5) := by rw [decide_eq_decide]; omega
  have e7 : decide (d < 6) = decide (d ≤ 5) := by rw [decide_eq_decide]; omega
  rw [e3, e7] at hnn
  rw [hnn]
  clear hnn e3 e7
  have hs := self_eq t
  generalize nanb t = b1 at *
  generalize h2 : decide (-1 ≤ s) = b2 at *
  generalize h3 : decide (s ≤ 5) = b3 at *
  generalize h4 : decide (0 ≤ n) = b4 at *
  generalize h5 : decide (n ≤ 1099511627776) = b5 at *
  generalize h6 : decide (0 ≤ d) = b6 at *
  generalize h7 : decide (d ≤ 5) = b7 at *
  rcases b1 with _ | _
  · rcases b2 with _ | _
    · (have hs' := hs; (first | simp only [Bool.not_false] at hs' | simp only [Bool.not_true] at hs'); clear hs; go_enter Try.func57, Try.ntmps57; go_wp2_with fail; go_ret; exact ⟨by first | rfl | simp, bel⟩)
    · rcases b3 with _ | _
      · (have hs' := hs; (first | simp only [Bool.not_false] at hs' | simp only [Bool.not_true] at hs'); clear hs; go_enter Try.func57, Try.ntmps57; go_wp2_with fail; go_ret; exact ⟨by first | rfl | simp, bel⟩)
      · rcases b4 with _ | _
        · (have hs' := hs; (first | simp only [Bool.not_false] at hs' | simp only [Bool.not_true] at hs'); clear hs; go_enter Try.func57, Try.ntmps57; go_wp2_with fail; go_ret; exact ⟨by first | rfl | simp, bel⟩)
        · rcases b5 with _ | _
          · (have hs' := hs; (first | simp only [Bool.not_false] at hs' | simp only [Bool.not_true] at hs'); clear hs; go_enter Try.func57, Try.ntmps57; go_wp2_with fail; go_ret; exact ⟨by first | rfl | simp, bel⟩)
          · rcases b6 with _ | _
            · (have hs' := hs; (first | simp only [Bool.not_false] at hs' | simp only [Bool.not_true] at hs'); clear hs; go_enter Try.func57, Try.ntmps57; go_wp2_with fail; go_ret; exact ⟨by first | rfl | simp, bel⟩)
            · rcases b7 with _ | _
              · (have hs' := hs; (first | simp only [Bool.not_false] at hs' | simp only [Bool.not_true] at hs'); clear hs; go_enter Try.func57, Try.ntmps57; go_wp2_with fail; go_ret; exact ⟨by first | rfl | simp, bel⟩)
              · (have hs' := hs; (first | simp only [Bool.not_false] at hs' | simp only [Bool.not_true] at hs'); clear hs; go_enter Try.func57, Try.ntmps57; go_wp2_with fail; go_ret; exact ⟨by first | rfl | simp, bel⟩)
  · (have hs' := hs; (first | simp only [Bool.not_false] at hs' | simp only [Bool.not_true] at hs'); clear hs; go_enter Try.func57, Try.ntmps57; go_wp2_with fail; go_ret; exact ⟨by first | rfl | simp, bel⟩)


set_option maxRecDepth 100000 in
set_option maxHeartbeats 4000000 in
theorem done_bad (t : Nat) (s n d p f : Int) (A : ByteArray) (e : Int) (w : World) (za : A.size ≤ 100)
    (CA : Aside0 (∀ w, Calls Try.prog 58 #[.agg #[.float .f64 t, .int .i64 s, .int .i64 n, .int .i64 d, .int .i64 p]] w fun r w' => r = .returned (.tuple #[.string A, .int .i64 e]) ∧ Below w.heap.size w w'))
    (hc : 1 ≤ e) :
    Calls Try.prog 60 #[.agg #[.float .f64 t, .int .i64 s, .int .i64 n, .int .i64 d, .int .i64 p, .int .i64 f]] w fun e w' => e = .returned (.tuple #[.string (⟨#[]⟩), .int .i64 2]) ∧ Below w.heap.size w w' := by
  have hu2 := Try.underlying42
  have hu3 := Try.underlying68
  have hu4 := Try.underlying73
  have s1 : ¬ 9223372036854775807 < A.size + (strOfNums [f]).size := by have := z1 f; omega
  clear za
  skip
  have HB := Aside0.mk (below_alloc (Below.refl w.heap.size w) (.cells #[.float .f64 t, .int .i64 s, .int .i64 n, .int .i64 d, .int .i64 p, .int .i64 f] 73))
  have HF := Aside0.mk (Blk.new w 73 #[.float .f64 t, .int .i64 s, .int .i64 n, .int .i64 d, .int .i64 p, .int .i64 f])
  go_enter Try.func60, Try.ntmps60
  go_wp2_with fail
  refine (CA.out _).mono ?_
  rintro e w1 ⟨rfl, hk⟩
  replace HF : Aside0 (Blk w1 (w.heap.size) 73 #[.float .f64 t, .int .i64 s, .int .i64 n, .int .i64 d, .int .i64 p, .int .i64 f]) := ⟨Blk.step blk hk⟩
  replace HB := Aside0.mk (below_step bel hk)
  have hsw1 := hk.size
  try simp at hsw1
  clear hk
  obtain ⟨cF0, cF1, cF2, cF3, cF4, cF5, fF⟩ := HF.out.c6
  go_wp2_with fail
  go_ret2
  exact ⟨rfl, bel⟩


set_option maxRecDepth 100000 in
set_option maxHeartbeats 4000000 in
theorem done_neg (t : Nat) (s n d p f : Int) (A : ByteArray) (e : Int) (w : World) (za : A.size ≤ 100)
    (CA : Aside0 (∀ w, Calls Try.prog 58 #[.agg #[.float .f64 t, .int .i64 s, .int .i64 n, .int .i64 d, .int .i64 p]] w fun r w' => r = .returned (.tuple #[.string A, .int .i64 e]) ∧ Below w.heap.size w w'))
    (hc : (e ≤ 0 ∧ 0 ≤ e) ∧ decide (f < 0) = true) :
    Calls Try.prog 60 #[.agg #[.float .f64 t, .int .i64 s, .int .i64 n, .int .i64 d, .int .i64 p, .int .i64 f]] w fun e w' => e = .returned (.tuple #[.string (⟨#[]⟩), .int .i64 2]) ∧ Below w.heap.size w w' := by
  have hu2 := Try.underlying42
  have hu3 := Try.underlying68
  have hu4 := Try.underlying73
  have s1 : ¬ 9223372036854775807 < A.size + (strOfNums [f]).size := by have := z1 f; omega
  clear za
  obtain ⟨⟨k1, k2⟩, k3⟩ := hc
  have HB := Aside0.mk (below_alloc (Below.refl w.heap.size w) (.cells #[.float .f64 t, .int .i64 s, .int .i64 n, .int .i64 d, .int .i64 p, .int .i64 f] 73))
  have HF := Aside0.mk (Blk.new w 73 #[.float .f64 t, .int .i64 s, .int .i64 n, .int .i64 d, .int .i64 p, .int .i64 f])
  go_enter Try.func60, Try.ntmps60
  go_wp2_with fail
  refine (CA.out _).mono ?_
  rintro e w1 ⟨rfl, hk⟩
  replace HF : Aside0 (Blk w1 (w.heap.size) 73 #[.float .f64 t, .int .i64 s, .int .i64 n, .int .i64 d, .int .i64 p, .int .i64 f]) := ⟨Blk.step blk hk⟩
  replace HB := Aside0.mk (below_step bel hk)
  have hsw1 := hk.size
  try simp at hsw1
  clear hk
  obtain ⟨cF0, cF1, cF2, cF3, cF4, cF5, fF⟩ := HF.out.c6
  go_wp2_with fail
  go_ret2
  exact ⟨rfl, bel⟩


set_option maxRecDepth 100000 in
set_option maxHeartbeats 4000000 in
theorem done_big (t : Nat) (s n d p f : Int) (A : ByteArray) (e : Int) (w : World) (za : A.size ≤ 100)
    (CA : Aside0 (∀ w, Calls Try.prog 58 #[.agg #[.float .f64 t, .int .i64 s, .int .i64 n, .int .i64 d, .int .i64 p]] w fun r w' => r = .returned (.tuple #[.string A, .int .i64 e]) ∧ Below w.heap.size w w'))
    (hc : (e ≤ 0 ∧ 0 ≤ e) ∧ decide (f < 0) = false ∧ decide (7 < f) = true) :
    Calls Try.prog 60 #[.agg #[.float .f64 t, .int .i64 s, .int .i64 n, .int .i64 d, .int .i64 p, .int .i64 f]] w fun e w' => e = .returned (.tuple #[.string (⟨#[]⟩), .int .i64 2]) ∧ Below w.heap.size w w' := by
  have hu2 := Try.underlying42
  have hu3 := Try.underlying68
  have hu4 := Try.underlying73
  have s1 : ¬ 9223372036854775807 < A.size + (strOfNums [f]).size := by have := z1 f; omega
  clear za
  obtain ⟨⟨k1, k2⟩, k3, k4⟩ := hc
  have HB := Aside0.mk (below_alloc (Below.refl w.heap.size w) (.cells #[.float .f64 t, .int .i64 s, .int .i64 n, .int .i64 d, .int .i64 p, .int .i64 f] 73))
  have HF := Aside0.mk (Blk.new w 73 #[.float .f64 t, .int .i64 s, .int .i64 n, .int .i64 d, .int .i64 p, .int .i64 f])
  go_enter Try.func60, Try.ntmps60
  go_wp2_with fail
  refine (CA.out _).mono ?_
  rintro e w1 ⟨rfl, hk⟩
  replace HF : Aside0 (Blk w1 (w.heap.size) 73 #[.float .f64 t, .int .i64 s, .int .i64 n, .int .i64 d, .int .i64 p, .int .i64 f]) := ⟨Blk.step blk hk⟩
  replace HB := Aside0.mk (below_step bel hk)
  have hsw1 := hk.size
  try simp at hsw1
  clear hk
  obtain ⟨cF0, cF1, cF2, cF3, cF4, cF5, fF⟩ := HF.out.c6
  go_wp2_with fail
  go_ret2
  exact ⟨rfl, bel⟩


set_option maxRecDepth 100000 in
set_option maxHeartbeats 4000000 in
theorem done_ok (t : Nat) (s n d p f : Int) (A : ByteArray) (e : Int) (w : World) (za : A.size ≤ 100)
    (CA : Aside0 (∀ w, Calls Try.prog 58 #[.agg #[.float .f64 t, .int .i64 s, .int .i64 n, .int .i64 d, .int .i64 p]] w fun r w' => r = .returned (.tuple #[.string A, .int .i64 e]) ∧ Below w.heap.size w w'))
    (hc : (e ≤ 0 ∧ 0 ≤ e) ∧ decide (f < 0) = false ∧ decide (7 < f) = false) (hf : 0 ≤ f ∧ f ≤ 7) :
    Calls Try.prog 60 #[.agg #[.float .f64 t, .int .i64 s, .int .i64 n, .int .i64 d, .int .i64 p, .int .i64 f]] w fun e w' => e = .returned (.tuple #[.string (A ++ strOfNums [f]), .int .i64 0]) ∧ Below w.heap.size w w' := by
  have hu2 := Try.underlying42
  have hu3 := Try.underlying68
  have hu4 := Try.underlying73
  have s1 : ¬ 9223372036854775807 < A.size + (strOfNums [f]).size := by have := z1 f; omega
  clear za
  obtain ⟨⟨k1, k2⟩, k3, k4⟩ := hc
  have CO := Aside0.mk (fun w => one_calls f (by omega) w)
  clear hf
  have HB := Aside0.mk (below_alloc (Below.refl w.heap.size w) (.cells #[.float .f64 t, .int .i64 s, .int .i64 n, .int .i64 d, .int .i64 p, .int .i64 f] 73))
  have HF := Aside0.mk (Blk.new w 73 #[.float .f64 t, .int .i64 s, .int .i64 n, .int .i64 d, .int .i64 p, .int .i64 f])
  go_enter Try.func60, Try.ntmps60
  go_wp2_with fail
  refine (CA.out _).mono ?_
  rintro e w1 ⟨rfl, hk⟩
  replace HF : Aside0 (Blk w1 (w.heap.size) 73 #[.float .f64 t, .int .i64 s, .int .i64 n, .int .i64 d, .int .i64 p, .int .i64 f]) := ⟨Blk.step blk hk⟩
  replace HB := Aside0.mk (below_step bel hk)
  have hsw1 := hk.size
  try simp at hsw1
  clear hk
  obtain ⟨cF0, cF1, cF2, cF3, cF4, cF5, fF⟩ := HF.out.c6
  go_wp2_with fail
  clear cF0 cF1 cF2 cF3 cF4 cF5 fF
  refine (CO.out _).mono ?_
  rintro e w2 ⟨rfl, hk⟩
  replace HF : Aside0 (Blk w2 (w.heap.size) 73 #[.float .f64 t, .int .i64 s, .int .i64 n, .int .i64 d, .int .i64 p, .int .i64 f]) := ⟨Blk.step blk hk⟩
  replace HB := Aside0.mk (below_step bel hk)
  have hsw2 := hk.size
  try simp at hsw2
  clear hk
  obtain ⟨cF0, cF1, cF2, cF3, cF4, cF5, fF⟩ := HF.out.c6
  go_wp2_with fail
  go_ret2
  exact ⟨rfl, bel⟩


/-- The bytes of what was handled. -/
def dnS (t : Nat) (s n d p f : Int) : ByteArray × Int := if rightB t s n d = true ∧ 0 ≤ f ∧ f ≤ 7 then (evS t s n d p ++ strOfNums [f], 0) else (⟨#[]⟩, 2)

theorem evS_size (t : Nat) (s n d p : Int) : (evS t s n d p).size = 26 := by
  simp only [evS, ByteArray.size_append, size_strOfNums]; rfl

theorem done_calls (t : Nat) (s n d p f : Int) (ht : t < 18446744073709551616) (hp : -9223372036854775808 ≤ p ∧ p < 9223372036854775808) (w : World) :
    Calls Try.prog 60 #[.agg #[.float .f64 t, .int .i64 s, .int .i64 n, .int .i64 d, .int .i64 p, .int .i64 f]] w fun e w' => e = .returned (.tuple #[.string (dnS t s n d p f).1, .int .i64 (dnS t s n d p f).2]) ∧ Below w.heap.size w w' := by
  have CA := fun w => put_calls t s n d p ht hp w
  by_cases hr : rightB t s n d = true
  · rw [if_pos hr, if_pos hr] at CA
    have hz := evS_size t s n d p
    by_cases h0 : 0 ≤ f
    · by_cases h7 : f ≤ 7
      · rw [show dnS t s n d p f = (evS t s n d p ++ strOfNums [f], 0) from if_pos ⟨hr, h0, h7⟩]
        exact done_ok t s n d p f _ 0 w (by omega) ⟨CA⟩ ⟨⟨Int.le_refl 0, Int.le_refl 0⟩, decide_eq_false (by omega), decide_eq_false (by omega)⟩ ⟨h0, h7⟩
      · rw [show dnS t s n d p f = (⟨#[]⟩, 2) from if_neg fun h => h7 h.2.2]
        exact done_big t s n d p f _ 0 w (by omega) ⟨CA⟩ ⟨⟨Int.le_refl 0, Int.le_refl 0⟩, decide_eq_false (by omega), decide_eq_true (by omega)⟩
    · rw [show dnS t s n d p f = (⟨#[]⟩, 2) from if_neg fun h => h0 h.2.1]
      exact done_neg t s n d p f _ 0 w (by omega) ⟨CA⟩ ⟨⟨Int.le_refl 0, Int.le_refl 0⟩, decide_eq_true (by omega)⟩
  · rw [if_neg hr, if_neg hr] at CA
    rw [show dnS t s n d p f = (⟨#[]⟩, 2) from if_neg fun h => hr h.1]
    exact done_bad t s n d p f _ 2 w (by decide) ⟨CA⟩ (by decide)

end Go.Proofs.Ytlbjcdfognofgaa.RecI

namespace Go.Proofs.Ytlbjcdfognofgaa.RecQ
open Go.RowKit Go.Proofs.YtlbjcdfognofgaaW.PrintWords Go.Proofs.YtlbjcdfognofgaaW.PrintLast Go.Proofs.YtlbjcdfognofgaaW.PrintMore Go.Proofs.Ytlbjcdfognofgaa.Be Go.Proofs.Ytlbjcdfognofgaa.Fl Go.Proofs.Ytlbjcdfognofgaa.StampA Go.Proofs.Ytlbjcdfognofgaa.StampB Go.Proofs.Ytlbjcdfognofgaa.StampC Go.Proofs.Ytlbjcdfognofgaa.StampD Go.Proofs.Ytlbjcdfognofgaa.StampK Go.Proofs.Ytlbjcdfognofgaa.SRec Go.Proofs.Ytlbjcdfognofgaa.StampQ Go.Proofs.Ytlbjcdfognofgaa.StampR Go.Proofs.Ytlbjcdfognofgaa.Wk Go.Proofs.Ytlbjcdfognofgaa.RecA Go.Proofs.Ytlbjcdfognofgaa.RecB Go.Proofs.Ytlbjcdfognofgaa.RecC Go.Proofs.Ytlbjcdfognofgaa.RecD Go.Proofs.Ytlbjcdfognofgaa.RecE Go.Proofs.Ytlbjcdfognofgaa.RecF Go.Proofs.Ytlbjcdfognofgaa.BytesW Go.Proofs.Ytlbjcdfognofgaa.PRecStates Go.Proofs.Ytlbjcdfognofgaa.RecM Go.Proofs.Ytlbjcdfognofgaa.RecN Go.Proofs.Ytlbjcdfognofgaa.RecP Go.Proofs.Ytlbjcdfognofgaa.RecI
attribute [local go_sem ↓] Go.wp_at_zero Go.wp_at_succ
attribute [local go_sem] run_store_float
set_option linter.unusedVariables false

/-- The event that stands at a place; of a key. -/
def evAt (s : ByteArray) (a : Int) : Ev := (tmV (nm s a 8), bt s (a + 8) - 1, nm s (a + 9) 8 - 9223372036854775808, bt s (a + 17), nm s (a + 18) 8 - 9223372036854775808)
theorem evA_ok {s : ByteArray} {a : Int} (b : Bool) (h : a + 26 ≤ s.size) : evA s a b = (evAt s a, a + 26, b) := by
  unfold evA
  simp only [tmR_ok b (show a + 8 ≤ s.size by omega), byR_ok b (show a + 8 < s.size by omega), inR_ok b (show a + 8 + 1 + 8 ≤ s.size by omega), byR_ok b (show a + 8 + 1 + 8 < s.size by omega), inR_ok b (show a + 8 + 1 + 8 + 1 + 8 ≤ s.size by omega)]
  rw [evAt, show a + 8 + 1 = a + 9 by omega, show a + 9 + 8 = a + 17 by omega, show a + 17 + 1 = a + 18 by omega, show a + 18 + 8 = a + 26 by omega]

theorem evA_no {s : ByteArray} {a : Int} (b : Bool) (h : (s.size : Int) < a + 26) : (evA s a b).2.2 = true := by
  unfold evA
  simp only
  by_cases h1 : (s.size : Int) < a + 8
  · rw [tmR_no b h1]; exact inR_of (byR_of (inR_of (byR_true _ _)))
  rw [tmR_ok b (by omega)]
  dsimp only
  by_cases h2 : (s.size : Int) ≤ a + 8
  · rw [byR_no b h2]; exact inR_of (byR_of (inR_true _ _))
  rw [byR_ok b (by omega)]
  dsimp only
  by_cases h3 : (s.size : Int) < a + 8 + 1 + 8
  · rw [inR_no b h3]; exact inR_of (byR_true _ _)
  rw [inR_ok b (by omega)]
  dsimp only
  by_cases h4 : (s.size : Int) ≤ a + 8 + 1 + 8
  · rw [byR_no b h4]; exact inR_true _ _
  rw [byR_ok b (by omega)]
  dsimp only
  rw [inR_no b (by omega)]

theorem evA_of {s : ByteArray} {a : Int} {b : Bool} (h : b = true) : (evA s a b).2.2 = true := by
  unfold evA; simp only
  exact inR_of (byR_of (inR_of (byR_of (tmR_of h))))

theorem gev_short {s : ByteArray} (h : (s.size : Int) < 26) : gev s = (ev0, 5) := by
  unfold gev; simp only
  rw [enR_short (evA_no false (by omega)), if_neg (by decide)]
theorem gev_long {s : ByteArray} (h : (26 : Int) < s.size) : gev s = (ev0, 6) := by
  unfold gev; simp only
  rw [evA_ok false (by omega)]
  dsimp only
  rw [enR_long (by omega), if_neg (by decide)]
theorem gev_is {s : ByteArray} (h : (s.size : Int) = 26) : gev s = if rgt (evAt s 0) = true then (evAt s 0, 0) else (ev0, 6) := by
  unfold gev; simp only
  rw [evA_ok false (by omega)]
  dsimp only
  rw [enR_end (by omega)]
  by_cases hr : rgt (evAt s 0) = true
  · rw [if_pos hr, if_pos rfl, if_pos hr]
  · rw [if_neg hr, if_neg (by decide), if_neg hr]
theorem gmsg_short {s : ByteArray} (h : (s.size : Int) < 27) : gmsg s = (ev0, false, 5) := by
  unfold gmsg; simp only
  have hb : (evA s (byR s 0 false).2.1 (byR s 0 false).2.2).2.2 = true := by
    by_cases h0 : (s.size : Int) ≤ 0
    · exact evA_of (by rw [byR_no false h0])
    · rw [byR_ok false (by omega)]; exact evA_no false (by show (s.size : Int) < 0 + 1 + 26; omega)
  rw [enR_short hb, if_neg (by decide)]
theorem gmsg_long {s : ByteArray} (h : (27 : Int) < s.size) : gmsg s = (ev0, false, 6) := by
  unfold gmsg; simp only
  rw [byR_ok false (by omega)]
  simp only
  rw [evA_ok false (by omega)]
  dsimp only
  rw [enR_long (by omega), if_neg (by decide)]
theorem gmsg_is {s : ByteArray} (h : (s.size : Int) = 27) : gmsg s = if rgt (evAt s 1) = true ∧ bt s 0 ≤ 1 then (evAt s 1, bt s 0 == 1, 0) else (ev0, false, 6) := by
  unfold gmsg; simp only
  rw [byR_ok false (by omega)]
  simp only
  rw [evA_ok false (by omega)]
  dsimp only
  rw [enR_end (by omega), show (0 : Int) + 1 = 1 from rfl]
  by_cases hr : rgt (evAt s 1) = true ∧ bt s 0 ≤ 1
  · have hb : (rgt (evAt s 1) && decide (bt s 0 ≤ 1)) = true := by simp [hr]
    rw [hb, if_pos rfl, if_pos rfl, if_pos hr]
  · have hb : (rgt (evAt s 1) && decide (bt s 0 ≤ 1)) = false := by rw [Bool.eq_false_iff]; simpa using hr
    rw [hb, if_neg (by decide), if_neg (by decide), if_neg hr]
theorem gdone_short {s : ByteArray} (h : (s.size : Int) < 27) : gdone s = (ev0, 0, 5) := by
  unfold gdone; simp only
  have hb : (byR s (evA s 0 false).2.1 (evA s 0 false).2.2).2.2 = true := by
    by_cases h0 : (s.size : Int) < 26
    · exact byR_of (evA_no false (by omega))
    · rw [evA_ok false (by omega)]; rw [byR_no false (by show (s.size : Int) ≤ 0 + 26; omega)]
  rw [enR_short hb, if_neg (by decide)]
theorem gdone_long {s : ByteArray} (h : (27 : Int) < s.size) : gdone s = (ev0, 0, 6) := by
  unfold gdone; simp only
  rw [evA_ok false (by omega)]
  simp only
  rw [byR_ok false (by omega)]
  dsimp only
  rw [enR_long (by omega), if_neg (by decide)]
theorem gdone_is {s : ByteArray} (h : (s.size : Int) = 27) : gdone s = if rgt (evAt s 0) = true ∧ bt s 26 ≤ 7 then (evAt s 0, bt s 26, 0) else (ev0, 0, 6) := by
  unfold gdone; simp only
  rw [evA_ok false (by omega)]
  simp only
  rw [byR_ok false (by omega)]
  dsimp only
  rw [enR_end (by omega), show (0 : Int) + 26 = 26 from rfl]
  by_cases hr : rgt (evAt s 0) = true ∧ bt s 26 ≤ 7
  · have hb : (rgt (evAt s 0) && decide (bt s 26 ≤ 7)) = true := by simp [hr]
    rw [hb, if_pos rfl, if_pos rfl, if_pos hr]
  · have hb : (rgt (evAt s 0) && decide (bt s 26 ≤ 7)) = false := by rw [Bool.eq_false_iff]; simpa using hr
    rw [hb, if_neg (by decide), if_neg (by decide), if_neg hr]


theorem dk_kb {x : Nat} (h : x < 18446744073709551616) : dk (kb x) = x := by
  unfold kb
  by_cases h9 : 9223372036854775808 ≤ x
  · rw [if_pos h9, dk, if_neg (by omega)]; omega
  · rw [if_neg h9, dk, if_pos (by omega)]; omega
theorem norm_not {t : Nat} : norm t ≠ 9223372036854775808 := by
  intro h
  unfold norm at h
  split at h
  · omega
  · split at h
    · omega
    · rename_i h0
      subst h
      exact h0 (by decide)

theorem nm_at {u : ByteArray} {X Z : List Int} {K i : Int} (h : bn u = X ++ (be8 K ++ Z)) (hi : (X.length : Int) = i) (hK : 0 ≤ K ∧ K < 18446744073709551616) : nm u i 8 = K := by
  have hz : u.size = X.length + (8 + Z.length) := by rw [← bn_length, h]; simp [be8_length]
  rw [← hi, nm_val _ _ _ (by omega), h, List.drop_left' rfl, List.take_left' (be8_length _), val_be8 _ hK.1 hK.2]
theorem bt_at {u : ByteArray} {X Z : List Int} {v i : Int} (h : bn u = X ++ ([v] ++ Z)) (hi : (X.length : Int) = i) : bt u i = v := by
  rw [← hi, bt_bn, h, Int.toNat_natCast, List.getD_eq_getElem?_getD, List.getElem?_append_right (Nat.le_refl _)]
  simp

theorem evS_bn {t : Nat} {s n d p : Int} (h : rightB t s n d = true) : bn (evS t s n d p) = be8 (kb (norm t)) ++ ([s + 1] ++ (be8 (n + 9223372036854775808) ++ ([d] ++ be8 (p + 9223372036854775808)))) := by
  have hh := rightB_true h
  have h1 : ∀ q ∈ [s + 1], 0 ≤ q ∧ q ≤ 255 := by intro q hq; simp only [List.mem_singleton] at hq; omega
  have h2 : ∀ q ∈ [d], 0 ≤ q ∧ q ≤ 255 := by intro q hq; simp only [List.mem_singleton] at hq; omega
  rw [evS]
  simp only [bn_append, bn_strOfNums _ (be8_range _), bn_strOfNums _ h1, bn_strOfNums _ h2, List.append_assoc]

theorem evS_at {u : ByteArray} {pre post : List Int} {a : Int} {t : Nat} {s n d p : Int} (h : bn u = pre ++ (bn (evS t s n d p) ++ post)) (hi : (pre.length : Int) = a) (hr : rightB t s n d = true) (ht : t < 18446744073709551616)
    (hp : -9223372036854775808 ≤ p ∧ p < 9223372036854775808) : evAt u a = (norm t, s, n, d, p) := by
  have hh := rightB_true hr
  have hx := norm_lt ht
  rw [evS_bn hr] at h
  have l8 : ∀ k, (be8 k).length = 8 := be8_length
  have e1 : nm u a 8 = kb (norm t) := nm_at (X := pre) (Z := [s + 1] ++ (be8 (n + 9223372036854775808) ++ ([d] ++ (be8 (p + 9223372036854775808) ++ post)))) (by rw [h]; simp only [List.append_assoc]) hi (kb_range hx)
  have e2 : bt u (a + 8) = s + 1 := bt_at (X := pre ++ be8 (kb (norm t))) (Z := be8 (n + 9223372036854775808) ++ ([d] ++ (be8 (p + 9223372036854775808) ++ post))) (by rw [h]; simp only [List.append_assoc]) (by rw [List.length_append, l8]; omega)
  have e3 : nm u (a + 9) 8 = n + 9223372036854775808 := nm_at (X := pre ++ (be8 (kb (norm t)) ++ [s + 1])) (Z := [d] ++ (be8 (p + 9223372036854775808) ++ post)) (by rw [h]; simp only [List.append_assoc]) (by simp only [List.length_append, l8, List.length_cons, List.length_nil]; omega) (by omega)
  have e4 : bt u (a + 17) = d := bt_at (X := pre ++ (be8 (kb (norm t)) ++ ([s + 1] ++ be8 (n + 9223372036854775808)))) (Z := be8 (p + 9223372036854775808) ++ post) (by rw [h]; simp only [List.append_assoc]) (by simp only [List.length_append, l8, List.length_cons, List.length_nil]; omega)
  have e5 : nm u (a + 18) 8 = p + 9223372036854775808 := nm_at (X := pre ++ (be8 (kb (norm t)) ++ ([s + 1] ++ (be8 (n + 9223372036854775808) ++ [d])))) (Z := post) (by rw [h]; simp only [List.append_assoc]) (by simp only [List.length_append, l8, List.length_cons, List.length_nil]; omega) (by omega)
  unfold evAt
  rw [e1, e2, e3, e4, e5, tmV, dk_kb hx, if_neg (fun g => g.elim (norm_val hh.1).2 norm_not), Int.add_sub_cancel, Int.add_sub_cancel, Int.add_sub_cancel]

theorem right_norm {t : Nat} {s n d : Int} (h : rightB t s n d = true) : rightB (norm t) s n d = true := by
  have hh := (rightB_true h).1
  have h1 : nanb t = false := decide_eq_false hh
  have h2 : nanb (norm t) = false := decide_eq_false (norm_val hh).2
  rw [rightB, h2]
  rw [rightB, h1] at h
  exact h

theorem gev_evS {t : Nat} {s n d p : Int} (hr : rightB t s n d = true) (ht : t < 18446744073709551616) (hp : -9223372036854775808 ≤ p ∧ p < 9223372036854775808) : gev (evS t s n d p) = ((norm t, s, n, d, p), 0) := by
  have e : evAt (evS t s n d p) 0 = (norm t, s, n, d, p) := evS_at (pre := []) (post := []) (by simp) rfl hr ht hp
  rw [gev_is (by rw [evS_size]; rfl), e, if_pos (by rw [rgt]; exact right_norm hr)]
theorem gmsg_evS {t : Nat} {s n d p : Int} (b : Bool) (hr : rightB t s n d = true) (ht : t < 18446744073709551616) (hp : -9223372036854775808 ≤ p ∧ p < 9223372036854775808) :
    gmsg (strOfNums [if b then 1 else 0] ++ evS t s n d p) = ((norm t, s, n, d, p), b, 0) := by
  have h1 : ∀ q ∈ [(if b then (1 : Int) else 0)], 0 ≤ q ∧ q ≤ 255 := by intro q hq; simp only [List.mem_singleton] at hq; subst hq; cases b <;> decide
  have hb : bn (strOfNums [if b then (1 : Int) else 0] ++ evS t s n d p) = [if b then (1 : Int) else 0] ++ (bn (evS t s n d p) ++ []) := by rw [bn_append, bn_strOfNums _ h1, List.append_nil]
  have e : evAt (strOfNums [if b then (1 : Int) else 0] ++ evS t s n d p) 1 = (norm t, s, n, d, p) := evS_at hb rfl hr ht hp
  have e0 : bt (strOfNums [if b then (1 : Int) else 0] ++ evS t s n d p) 0 = if b then 1 else 0 := bt_at (X := []) hb rfl
  rw [gmsg_is (by rw [ByteArray.size_append, evS_size, size_strOfNums]; rfl), e, e0, if_pos ⟨by rw [rgt]; exact right_norm hr, by cases b <;> decide⟩]
  cases b <;> rfl
theorem gdone_evS {t : Nat} {s n d p f : Int} (hr : rightB t s n d = true) (ht : t < 18446744073709551616) (hp : -9223372036854775808 ≤ p ∧ p < 9223372036854775808) (hf : 0 ≤ f ∧ f ≤ 7) :
    gdone (evS t s n d p ++ strOfNums [f]) = ((norm t, s, n, d, p), f, 0) := by
  have h1 : ∀ q ∈ [f], 0 ≤ q ∧ q ≤ 255 := by intro q hq; simp only [List.mem_singleton] at hq; omega
  have hb : bn (evS t s n d p ++ strOfNums [f]) = [] ++ (bn (evS t s n d p) ++ [f]) := by rw [bn_append, bn_strOfNums _ h1, List.nil_append]
  have e : evAt (evS t s n d p ++ strOfNums [f]) 0 = (norm t, s, n, d, p) := evS_at hb rfl hr ht hp
  have e0 : bt (evS t s n d p ++ strOfNums [f]) 26 = f := bt_at (X := bn (evS t s n d p)) (Z := []) (by rw [hb]; simp) (by rw [bn_length, evS_size]; rfl)
  rw [gdone_is (by rw [ByteArray.size_append, evS_size, size_strOfNums]; rfl), e, e0, if_pos ⟨by rw [rgt]; exact right_norm hr, hf.2⟩]

/-! ### What is read is laid as the very bytes -/
theorem bn_inj {x y : ByteArray} (h : bn x = bn y) : x = y := by rw [← strOfNums_bn x, h, strOfNums_bn]
theorem one_at (u : ByteArray) (a : Nat) (h : a < u.size) : ((bn u).drop a).take 1 = [bt u a] := by
  have hl : a < (bn u).length := by rw [bn_length]; exact h
  rw [bt_bn, Int.toNat_natCast, List.getD_eq_getElem?_getD, List.getElem?_eq_getElem hl, List.drop_eq_getElem_cons hl]
  rfl
theorem ev_bytes (u : ByteArray) (a : Nat) (h : a + 26 ≤ u.size) (hr : rgt (evAt u a) = true) :
    bn (evS (evAt u a).1 (evAt u a).2.1 (evAt u a).2.2.1 (evAt u a).2.2.2.1 (evAt u a).2.2.2.2) = ((bn u).drop a).take 26 := by
  rw [evS_bn hr]
  have hh := (rightB_true hr).1
  have hK := nm8 u a
  have ht : tmV (nm u a 8) = dk (nm u a 8) ∧ ¬ isNan (dk (nm u a 8)) ∧ dk (nm u a 8) ≠ 9223372036854775808 := by
    by_cases hc : isNan (dk (nm u a 8)) ∨ dk (nm u a 8) = 9223372036854775808
    · exfalso
      have e : (evAt u a).1 = 9221120237041090561 := by show tmV (nm u a 8) = _; rw [tmV, if_pos hc]
      rw [e] at hh
      exact hh (by decide)
    · exact ⟨by rw [tmV, if_neg hc], fun g => hc (Or.inl g), fun g => hc (Or.inr g)⟩
  have e1 : kb (norm (evAt u a).1) = nm u a 8 := by
    show kb (norm (tmV (nm u a 8))) = _
    rw [ht.1]
    exact (kb_dk hK ht.2.1 ht.2.2).2
  rw [e1]
  show be8 (nm u a 8) ++ ([bt u (a + 8) - 1 + 1] ++ (be8 (nm u (a + 9) 8 - 9223372036854775808 + 9223372036854775808) ++ ([bt u (a + 17)] ++ be8 (nm u (a + 18) 8 - 9223372036854775808 + 9223372036854775808)))) = _
  rw [Int.sub_add_cancel, Int.sub_add_cancel, Int.sub_add_cancel, nm_drop u a (by omega), show (a : Int) + 8 = ((a + 8 : Nat) : Int) by omega, show (a : Int) + 9 = ((a + 9 : Nat) : Int) by omega, show (a : Int) + 17 = ((a + 17 : Nat) : Int) by omega, show (a : Int) + 18 = ((a + 18 : Nat) : Int) by omega,
    nm_drop u (a + 9) (by omega), nm_drop u (a + 18) (by omega), ← one_at u (a + 8) (by omega), ← one_at u (a + 17) (by omega)]
  rw [show (26 : Nat) = 8 + (1 + (8 + (1 + 8))) from rfl, List.take_add, List.take_add, List.take_add, List.take_add]
  simp only [List.drop_drop]

theorem gev_lay {s : ByteArray} (h : (gev s).2 = 0) : s.size = 26 ∧ rightB (gev s).1.1 (gev s).1.2.1 (gev s).1.2.2.1 (gev s).1.2.2.2.1 = true ∧ evS (gev s).1.1 (gev s).1.2.1 (gev s).1.2.2.1 (gev s).1.2.2.2.1 (gev s).1.2.2.2.2 = s := by
  by_cases h1 : (s.size : Int) < 26
  · rw [gev_short h1] at h; exact absurd h (by decide)
  by_cases h2 : (26 : Int) < s.size
  · rw [gev_long h2] at h; exact absurd h (by decide)
  have hz : (s.size : Int) = 26 := by omega
  rw [gev_is hz] at h ⊢
  by_cases hr : rgt (evAt s 0) = true
  · rw [if_pos hr]
    refine ⟨by omega, hr, bn_inj ?_⟩
    have e := ev_bytes s 0 (by omega) hr
    rw [List.drop_zero, List.take_of_length_le (by rw [bn_length]; omega)] at e
    exact e
  · rw [if_neg hr] at h; exact absurd h (by decide)
theorem gmsg_lay {s : ByteArray} (h : (gmsg s).2.2 = 0) : s.size = 27 ∧ rightB (gmsg s).1.1 (gmsg s).1.2.1 (gmsg s).1.2.2.1 (gmsg s).1.2.2.2.1 = true ∧
    strOfNums [if (gmsg s).2.1 then 1 else 0] ++ evS (gmsg s).1.1 (gmsg s).1.2.1 (gmsg s).1.2.2.1 (gmsg s).1.2.2.2.1 (gmsg s).1.2.2.2.2 = s := by
  by_cases h1 : (s.size : Int) < 27
  · rw [gmsg_short h1] at h; exact absurd h (by decide)
  by_cases h2 : (27 : Int) < s.size
  · rw [gmsg_long h2] at h; exact absurd h (by decide)
  have hz : (s.size : Int) = 27 := by omega
  rw [gmsg_is hz] at h ⊢
  by_cases hr : rgt (evAt s 1) = true ∧ bt s 0 ≤ 1
  · rw [if_pos hr]
    have hb := bt_range s 0
    refine ⟨by omega, hr.1, bn_inj ?_⟩
    have e := ev_bytes s 1 (by omega) hr.1
    have eb : (if (bt s 0 == 1) = true then (1 : Int) else 0) = bt s 0 := by
      by_cases h1 : bt s 0 = 1
      · rw [h1]; rfl
      · rw [show bt s 0 = 0 by omega]; rfl
    have h1' : ∀ q ∈ [bt s 0], 0 ≤ q ∧ q ≤ 255 := by intro q hq; simp only [List.mem_singleton] at hq; omega
    show bn (strOfNums [if (bt s 0 == 1) = true then (1 : Int) else 0] ++ _) = _
    rw [eb, bn_append, bn_strOfNums _ h1']
    refine (congrArg ([bt s 0] ++ ·) e).trans ?_
    have q := one_at s 0 (by omega)
    rw [List.drop_zero] at q
    show [bt s ((0 : Nat) : Int)] ++ _ = _
    rw [← q, List.take_of_length_le (l := (bn s).drop 1) (by rw [List.length_drop, bn_length]; omega), List.take_append_drop]
  · rw [if_neg hr] at h; exact absurd h (by decide)

theorem lay8_nums8 (s : ByteArray) (a : Nat) : ∀ n : Nat, a + 8 * n ≤ s.size → lay8 (nums8 s a n) = ((bn s).drop a).take (8 * n)
  | 0, _ => by simp [nums8, lay8]
  | n + 1, h => by
    rw [nums8_succ, lay8_append, lay8_nums8 s a n (by omega), lay8_one, Int.sub_add_cancel, show (a : Int) + 8 * (n : Int) = ((a + 8 * n : Nat) : Int) by omega, nm_drop s _ (by omega), show 8 * (n + 1) = 8 * n + 8 by omega, List.take_add, List.drop_drop]

theorem gst_lay {s : ByteArray} (h : (gst s).2.2.2 = 0) : (s.size : Int) = 17 + 8 * bt s 0 ∧ okS (gst s).1.length (gst s).2.1 (gst s).2.2.1 = true ∧ pst (gst s).1 (gst s).2.1 (gst s).2.2.1 = s ∧ ∀ n ∈ (gst s).1, -9223372036854775808 ≤ n ∧ n < 9223372036854775808 := by
  have hb := bt_range s 0
  unfold gst at h ⊢
  by_cases h0 : (s.size : Int) = 0
  · rw [if_pos h0] at h; exact absurd h (by decide)
  by_cases h1 : (s.size : Int) < 17 + 8 * bt s 0
  · rw [if_neg h0, if_pos h1] at h; exact absurd h (by decide)
  by_cases h2 : 17 + 8 * bt s 0 < (s.size : Int)
  · rw [if_neg h0, if_neg h1, if_pos h2] at h; exact absurd h (by decide)
  rw [if_neg h0, if_neg h1, if_neg h2] at h ⊢
  by_cases hk : okS (bt s 0).toNat (nm s (1 + 8 * bt s 0) 8 - 9223372036854775808) (nm s (9 + 8 * bt s 0) 8 - 9223372036854775808) = true
  · rw [if_pos hk]
    refine ⟨by omega, by show okS (nums8 s 1 (bt s 0).toNat).length _ _ = true; rw [nums8_length]; exact hk, bn_inj ?_, ?_⟩
    · show bn (pst (nums8 s 1 (bt s 0).toNat) (nm s (1 + 8 * bt s 0) 8 - 9223372036854775808) (nm s (9 + 8 * bt s 0) 8 - 9223372036854775808)) = bn s
      obtain ⟨k, hk⟩ : ∃ k : Nat, bt s 0 = k := ⟨_, (Int.toNat_of_nonneg hb.1).symm⟩
      rw [hk] at h1 h2 hb ⊢
      have r1 : ∀ q ∈ ([(k : Int)] ++ lay8 (nums8 s 1 k)), 0 ≤ q ∧ q ≤ 255 := by
        intro q hq
        rcases List.mem_append.1 hq with h | h
        · simp only [List.mem_singleton] at h; omega
        · exact lay8_range _ q h
      have l1 := lay8_nums8 s 1 k (by omega)
      rw [show ((1 : Nat) : Int) = 1 from rfl] at l1
      have q := one_at s 0 (by omega)
      rw [List.drop_zero, show ((0 : Nat) : Int) = 0 from rfl, hk] at q
      rw [Int.toNat_natCast, pst, nums8_length, bn_append, bn_append, bn_strOfNums _ r1, bn_strOfNums _ (be8_range _), bn_strOfNums _ (be8_range _), Int.sub_add_cancel, Int.sub_add_cancel,
        show (1 : Int) + 8 * (k : Int) = ((1 + 8 * k : Nat) : Int) by omega, show (9 : Int) + 8 * (k : Int) = ((9 + 8 * k : Nat) : Int) by omega, nm_drop s _ (by omega), nm_drop s _ (by omega), l1, ← q]
      have e : bn s = (bn s).take (1 + (8 * k + (8 + 8))) := (List.take_of_length_le (by rw [bn_length]; omega)).symm
      refine Eq.trans ?_ e.symm
      rw [List.take_add, List.take_add, List.take_add]
      simp only [List.drop_drop, List.append_assoc]
      rw [show 1 + 8 * k + 8 = 9 + 8 * k by omega]
    · intro n hn
      have hn' : n ∈ nums8 s 1 (bt s 0).toNat := hn
      simp only [nums8, List.mem_map] at hn'
      obtain ⟨i, _, rfl⟩ := hn'
      have := nm8 s (1 + 8 * (i : Int))
      omega
  · rw [if_neg hk] at h; exact absurd h (by decide)

end Go.Proofs.Ytlbjcdfognofgaa.RecQ

namespace Go.Proofs.Ytlbjcdfognofgaa.BackN
open Go.RowKit Go.Proofs.YtlbjcdfognofgaaW.PrintWords Go.Proofs.YtlbjcdfognofgaaW.PrintLast Go.Proofs.YtlbjcdfognofgaaW.PrintMore Go.Proofs.Ytlbjcdfognofgaa.Be Go.Proofs.Ytlbjcdfognofgaa.Fl Go.Proofs.Ytlbjcdfognofgaa.StampA Go.Proofs.Ytlbjcdfognofgaa.StampB Go.Proofs.Ytlbjcdfognofgaa.StampC Go.Proofs.Ytlbjcdfognofgaa.StampD Go.Proofs.Ytlbjcdfognofgaa.StampK Go.Proofs.Ytlbjcdfognofgaa.SRec Go.Proofs.Ytlbjcdfognofgaa.StampQ Go.Proofs.Ytlbjcdfognofgaa.StampR Go.Proofs.Ytlbjcdfognofgaa.Wk Go.Proofs.Ytlbjcdfognofgaa.RecA Go.Proofs.Ytlbjcdfognofgaa.RecB Go.Proofs.Ytlbjcdfognofgaa.RecC Go.Proofs.Ytlbjcdfognofgaa.RecD Go.Proofs.Ytlbjcdfognofgaa.RecE Go.Proofs.Ytlbjcdfognofgaa.RecF Go.Proofs.Ytlbjcdfognofgaa.RecI Go.Proofs.Ytlbjcdfognofgaa.PRecStates Go.Proofs.Ytlbjcdfognofgaa.RecM Go.Proofs.Ytlbjcdfognofgaa.RecN Go.Proofs.Ytlbjcdfognofgaa.RecP Go.Proofs.Ytlbjcdfognofgaa.RecQ
attribute [local go_sem ↓] Go.wp_at_zero Go.wp_at_succ
attribute [local go_sem] run_store_float
set_option linter.unusedVariables false


theorem blk_c8 {w : World} {g : Nat} {t : TypeId} {v0 v1 v2 v3 v4 v5 v6 v7 : Value} (h : Blk w g t #[v0, v1, v2, v3, v4, v5, v6, v7]) : w.cell? ⟨g, 0, none⟩ = some v0 ∧ w.cell? ⟨g, 1, none⟩ = some v1 ∧ w.cell? ⟨g, 2, none⟩ = some v2 ∧ w.cell? ⟨g, 3, none⟩ = some v3 ∧ w.cell? ⟨g, 4, none⟩ = some v4 ∧ w.cell? ⟨g, 5, none⟩ = some v5 ∧ w.cell? ⟨g, 6, none⟩ = some v6 ∧ w.cell? ⟨g, 7, none⟩ = some v7 ∧ ∀ i, w.frozen? ⟨g, i, none⟩ = false :=
  ⟨h.cell 0, h.cell 1, h.cell 2, h.cell 3, h.cell 4, h.cell 5, h.cell 6, h.cell 7, h.frozen⟩
theorem kc {W : World} {A : Option Addr} {n : Nat} {xs : List Int} (h : Kd.C (Kd.int .i64) W A n xs := by repeat (first | (with_reducible exact Aside0.out (by assumption)) | (with_reducible apply Kd.C_alloc) | (with_reducible refine Kd.C_below ?_ (pw_below_drewN (Below.refl _ _) _)) | (refine Kd.C_below ?_ (below_drew1 (Below.refl _ _))))) : Kd.C (Kd.int .i64) W A n xs := h

set_option maxRecDepth 100000 in
theorem same64_calls (t : Nat) (s n d p : Int) (w : World) : Calls Try.prog 64 #[.agg #[.float .f64 t, .int .i64 s, .int .i64 n, .int .i64 d, .int .i64 p], .agg #[.float .f64 t, .int .i64 s, .int .i64 n, .int .i64 d, .int .i64 p]] w fun e w' => e = .returned (.bool true) ∧ Below w.heap.size w w' := by
  have hu2 := Try.underlying42
  have hu3 := Try.underlying68
  have HB := Aside0.mk (below_alloc (below_alloc (Below.refl w.heap.size w) (.cells #[.float .f64 t, .int .i64 s, .int .i64 n, .int .i64 d, .int .i64 p] 68)) (.cells #[.float .f64 t, .int .i64 s, .int .i64 n, .int .i64 d, .int .i64 p] 68))
  have HX := Aside0.mk ((Blk.new w 68 #[.float .f64 t, .int .i64 s, .int .i64 n, .int .i64 d, .int .i64 p]).alloc (.cells #[.float .f64 t, .int .i64 s, .int .i64 n, .int .i64 d, .int .i64 p] 68))
  have HY : Aside0 (Blk ((w.alloc (.cells #[.float .f64 t, .int .i64 s, .int .i64 n, .int .i64 d, .int .i64 p] 68)).alloc (.cells #[.float .f64 t, .int .i64 s, .int .i64 n, .int .i64 d, .int .i64 p] 68)) (w.heap.size + 1) 68 #[.float .f64 t, .int .i64 s, .int .i64 n, .int .i64 d, .int .i64 p]) := ⟨by have h := Blk.new (w.alloc (.cells #[.float .f64 t, .int .i64 s, .int .i64 n, .int .i64 d, .int .i64 p] 68)) 68 #[.float .f64 t, .int .i64 s, .int .i64 n, .int .i64 d, .int .i64 p]; simpa using h⟩
  go_enter Try.func64, Try.ntmps64
  go_wp2_with fail
  refine (same71_calls _ _ _ _).mono ?_
  rintro e w1 ⟨rfl, hk⟩
  replace HX : Aside0 (Blk w1 (w.heap.size) 68 #[.float .f64 t, .int .i64 s, .int .i64 n, .int .i64 d, .int .i64 p]) := ⟨Blk.step blk hk⟩
  replace HY : Aside0 (Blk w1 (w.heap.size + 1) 68 #[.float .f64 t, .int .i64 s, .int .i64 n, .int .i64 d, .int .i64 p]) := ⟨Blk.step blk hk⟩
  replace HB := Aside0.mk (below_step bel hk)
  have hsw1 := hk.size
  try simp at hsw1
  clear hk
  obtain ⟨cX0, cX1, cX2, cX3, cX4, fX⟩ := HX.out.c5
  obtain ⟨cY0, cY1, cY2, cY3, cY4, fY⟩ := HY.out.c5
  go_wp2_with fail
  go_ret
  exact ⟨rfl, bel⟩

set_option maxRecDepth 100000 in
set_option maxHeartbeats 1000000 in
theorem kept65_calls (t : Nat) (s n d p : Int) (w : World) : Calls Try.prog 65 #[.agg #[.float .f64 t, .int .i64 s, .int .i64 n, .int .i64 d, .int .i64 p]] w fun e w' => e = .returned (.agg #[.float .f64 (norm t), .int .i64 s, .int .i64 n, .int .i64 d, .int .i64 p]) ∧ Below w.heap.size w w' := by
  have hu2 := Try.underlying42
  have hu3 := Try.underlying68
  have HB := Aside0.mk (below_alloc (below_alloc (Below.refl w.heap.size w) (.cells #[.float .f64 t, .int .i64 s, .int .i64 n, .int .i64 d, .int .i64 p] 68)) (.cells #[.float .f64 0, .int .i64 0, .int .i64 0, .int .i64 0, .int .i64 0] 68))
  have HX := Aside0.mk ((Blk.new w 68 #[.float .f64 t, .int .i64 s, .int .i64 n, .int .i64 d, .int .i64 p]).alloc (.cells #[.float .f64 0, .int .i64 0, .int .i64 0, .int .i64 0, .int .i64 0] 68))
  have HR : Aside0 (Blk ((w.alloc (.cells #[.float .f64 t, .int .i64 s, .int .i64 n, .int .i64 d, .int .i64 p] 68)).alloc (.cells #[.float .f64 0, .int .i64 0, .int .i64 0, .int .i64 0, .int .i64 0] 68)) (w.heap.size + 1) 68 #[.float .f64 0, .int .i64 0, .int .i64 0, .int .i64 0, .int .i64 0]) := ⟨by have h := Blk.new (w.alloc (.cells #[.float .f64 t, .int .i64 s, .int .i64 n, .int .i64 d, .int .i64 p] 68)) 68 #[.float .f64 0, .int .i64 0, .int .i64 0, .int .i64 0, .int .i64 0]; simpa using h⟩
  have hxr : ¬ w.heap.size = w.heap.size + 1 := by omega
  have hrx : ¬ w.heap.size + 1 = w.heap.size := by omega
  go_enter Try.func65, Try.ntmps65
  go_wp2_with fail
  refine (norm32_calls _ _).mono ?_
  rintro e w1 ⟨rfl, rfl⟩
  obtain ⟨cX0, cX1, cX2, cX3, cX4, fX⟩ := HX.out.c5
  obtain ⟨cR0, cR1, cR2, cR3, cR4, fR⟩ := HR.out.c5
  go_wp2_with fail
  have hr3 := Try.results65
  refine bodyPost_ret (v := .agg #[.float .f64 (norm t), .int .i64 s, .int .i64 n, .int .i64 d, .int .i64 p]) (by simp [results, Try.results65, go_sem, *]) rfl ⟨rfl, by repeat (first | (with_reducible exact Below.refl _ _) | (with_reducible apply below_alloc) | refine below_set ?_ (by first | omega | (simp; done) | (simp; omega)))⟩


set_option maxRecDepth 100000 in
set_option maxHeartbeats 8000000 in
theorem walk_big (t : Nat) (s n d p : Int) (anti : Bool) (fl : Int) (S : ByteArray) (w : World) (h : 200 < S.size) :
    Calls Try.prog 12 #[.agg #[.float .f64 t, .int .i64 s, .int .i64 n, .int .i64 d, .int .i64 p, .bool anti, .int .u8 fl, .string S]] w fun e w' => e = .returned (.bool true) ∧ Below w.heap.size w w' := by
  have hu2 := Try.underlying42
  have hu3 := Try.underlying68
  have hu4 := Try.underlying73
  have hu5 := Try.underlying77
  have hu6 := Try.underlying48
  have hu7 := Try.underlying70
  have hd1 : decide ((200 : Int) < (S.size : Int)) = true := decide_eq_true (by omega)
  have HB := Aside0.mk (below_alloc (Below.refl w.heap.size w) (.cells #[.float .f64 t, .int .i64 s, .int .i64 n, .int .i64 d, .int .i64 p, .bool anti, .int .u8 fl, .string S] 70))
  have HQ := Aside0.mk (Blk.new w 70 #[.float .f64 t, .int .i64 s, .int .i64 n, .int .i64 d, .int .i64 p, .bool anti, .int .u8 fl, .string S])
  obtain ⟨cQ0, cQ1, cQ2, cQ3, cQ4, cQ5, cQ6, cQ7, fQ⟩ := blk_c8 HQ.out
  go_enter Try.func12, Try.ntmps12
  go_wp2_with fail
  go_region
  clear cQ0 cQ1 cQ2 cQ3 cQ4 cQ5 cQ6 cQ7 fQ HQ hu7
  have HE : Aside0 (Blk (((w.alloc (.cells #[.float .f64 t, .int .i64 s, .int .i64 n, .int .i64 d, .int .i64 p, .bool anti, .int .u8 fl, .string S] 70)).alloc (.cells #[.float .f64 t, .int .i64 s, .int .i64 n, .int .i64 d, .int .i64 p] 68)).drew) (w.heap.size + 1) 68 #[.float .f64 t, .int .i64 s, .int .i64 n, .int .i64 d, .int .i64 p]) := ⟨by have h := (Blk.new (w.alloc (.cells #[.float .f64 t, .int .i64 s, .int .i64 n, .int .i64 d, .int .i64 p, .bool anti, .int .u8 fl, .string S] 70)) 68 #[.float .f64 t, .int .i64 s, .int .i64 n, .int .i64 d, .int .i64 p]).drew; simpa using h⟩
  go_wp2_with fail
  refine (RecF.awake_calls _).mono ?_
  rintro e w1 ⟨rfl, hk⟩
  replace HB := Aside0.mk (below_step bel hk)
  have hsw1 := hk.size
  try simp at hsw1
  clear hk
  go_wp2_with fail
  go_ret
  exact ⟨rfl, bel⟩


set_option maxRecDepth 100000 in
set_option maxHeartbeats 8000000 in
theorem walk_N_none (t : Nat) (s n d p : Int) (anti : Bool) (fl : Int) (S : ByteArray) (w : World) (y1 z1 : Nat) (y2 y3 y4 y5 z2 z3 z4 z5 q1 q2 : Int) (l : List Int) (zb : Bool) (f : Int) (hf : 1 ≤ f) (e : Int) (he : 1 ≤ e) (g : Int) (hg : 1 ≤ g)
    (h : S.size ≤ 200) (CR : (Aside0 (Gives 57 #[.agg #[.float .f64 t, .int .i64 s, .int .i64 n, .int .i64 d, .int .i64 p]] (.bool false)))) (CG : (Aside0 (Gives 61 #[.string S] (.tuple #[.agg #[.float .f64 y1, .int .i64 y2, .int .i64 y3, .int .i64 y4, .int .i64 y5], .int .i64 f]))))
    (CT : (Aside0 (∀ W, Calls Try.prog 43 #[.string S] W fun e' w' => ∃ (B : Option Addr) (c : Nat), e' = .returned (.tuple #[.agg #[.slice B l.length c, .int .i64 q1, .int .i64 q2], .int .i64 e]) ∧ (l.length ≤ c ∧ Kd.C (Kd.int .i64) w' B l.length l) ∧ Below W.heap.size W w'))) (CM : (Aside0 (Gives 62 #[.string S] (.tuple #[.agg #[.float .f64 z1, .int .i64 z2, .int .i64 z3, .int .i64 z4, .int .i64 z5, .bool zb], .int .i64 g])))) :
    Calls Try.prog 12 #[.agg #[.float .f64 t, .int .i64 s, .int .i64 n, .int .i64 d, .int .i64 p, .bool anti, .int .u8 fl, .string S]] w fun e w' => e = .returned (.bool true) ∧ Below w.heap.size w w' := by
  have hu2 := Try.underlying42
  have hu3 := Try.underlying68
  have hu4 := Try.underlying73
  have hu5 := Try.underlying77
  have hu6 := Try.underlying48
  have hu7 := Try.underlying70
  have hd1 : decide ((200 : Int) < (S.size : Int)) = false := decide_eq_false (by omega)
  have HB := Aside0.mk (below_alloc (Below.refl w.heap.size w) (.cells #[.float .f64 t, .int .i64 s, .int .i64 n, .int .i64 d, .int .i64 p, .bool anti, .int .u8 fl, .string S] 70))
  have HQ := Aside0.mk (Blk.new w 70 #[.float .f64 t, .int .i64 s, .int .i64 n, .int .i64 d, .int .i64 p, .bool anti, .int .u8 fl, .string S])
  obtain ⟨cQ0, cQ1, cQ2, cQ3, cQ4, cQ5, cQ6, cQ7, fQ⟩ := blk_c8 HQ.out
  go_enter Try.func12, Try.ntmps12
  go_wp2_with fail
  go_region
  clear cQ0 cQ1 cQ2 cQ3 cQ4 cQ5 cQ6 cQ7 fQ HQ hu7
  have HE : Aside0 (Blk (((w.alloc (.cells #[.float .f64 t, .int .i64 s, .int .i64 n, .int .i64 d, .int .i64 p, .bool anti, .int .u8 fl, .string S] 70)).alloc (.cells #[.float .f64 t, .int .i64 s, .int .i64 n, .int .i64 d, .int .i64 p] 68)).drew) (w.heap.size + 1) 68 #[.float .f64 t, .int .i64 s, .int .i64 n, .int .i64 d, .int .i64 p]) := ⟨by have h := (Blk.new (w.alloc (.cells #[.float .f64 t, .int .i64 s, .int .i64 n, .int .i64 d, .int .i64 p, .bool anti, .int .u8 fl, .string S] 70)) 68 #[.float .f64 t, .int .i64 s, .int .i64 n, .int .i64 d, .int .i64 p]).drew; simpa using h⟩
  go_wp2_with fail
  refine (CR.out _).mono ?_
  rintro e w1 ⟨rfl, hk⟩
  replace HE : Aside0 (Blk w1 (w.heap.size + 1) 68 #[.float .f64 t, .int .i64 s, .int .i64 n, .int .i64 d, .int .i64 p]) := ⟨Blk.step blk hk⟩
  replace HB := Aside0.mk (below_step bel hk)
  have hsw1 := hk.size
  try simp at hsw1
  clear hk
  obtain ⟨cE0, cE1, cE2, cE3, cE4, fE⟩ := HE.out.c5
  have nEw1 : w.heap.size + 1 < w1.heap.size := by omega
  have uEw1 : ¬ w.heap.size + 1 = w1.heap.size := by omega
  go_wp2_with fail
  clear cE0 cE1 cE2 cE3 cE4 fE
  clear HE
  refine (CG.out _).mono ?_
  rintro e w2 ⟨rfl, hk⟩
  replace HB := Aside0.mk (below_step bel hk)
  have hsw2 := hk.size
  try simp at hsw2
  clear hk
  have HL := Aside0.mk (Blk.new w2 68 #[.float .f64 y1, .int .i64 y2, .int .i64 y3, .int .i64 y4, .int .i64 y5])
  go_wp2_with fail
  clear HL
  refine (CT.out _).mono ?_
  rintro e w3 ⟨B, c, rfl, ⟨hc, hK⟩, hk⟩
  replace HB := Aside0.mk (below_step bel hk)
  have hsw3 := hk.size
  try simp at hsw3
  clear hk
  clear hK hc
  go_wp2_with fail
  refine (CM.out _).mono ?_
  rintro e w4 ⟨rfl, hk⟩
  replace HB := Aside0.mk (below_step bel hk)
  have hsw4 := hk.size
  try simp at hsw4
  clear hk
  have HM := Aside0.mk (Blk.new w4 77 #[.float .f64 z1, .int .i64 z2, .int .i64 z3, .int .i64 z4, .int .i64 z5, .bool zb])
  go_wp2_with fail
  clear HM
  refine (RecF.awake_calls _).mono ?_
  rintro e w5 ⟨rfl, hk⟩
  replace HB := Aside0.mk (below_step bel hk)
  have hsw5 := hk.size
  try simp at hsw5
  clear hk
  go_wp2_with fail
  go_ret
  exact ⟨rfl, bel⟩


set_option maxRecDepth 100000 in
set_option maxHeartbeats 8000000 in
theorem walk_N_ev (t : Nat) (s n d p : Int) (anti : Bool) (fl : Int) (S : ByteArray) (w : World) (y1 z1 : Nat) (y2 y3 y4 y5 z2 z3 z4 z5 q1 q2 : Int) (l : List Int) (zb : Bool) (e : Int) (he : 1 ≤ e) (g : Int) (hg : 1 ≤ g)
    (h : S.size ≤ 200) (CR : (Aside0 (Gives 57 #[.agg #[.float .f64 t, .int .i64 s, .int .i64 n, .int .i64 d, .int .i64 p]] (.bool false)))) (CG : (Aside0 (Gives 61 #[.string S] (.tuple #[.agg #[.float .f64 y1, .int .i64 y2, .int .i64 y3, .int .i64 y4, .int .i64 y5], .int .i64 0]))))
    (CT : (Aside0 (∀ W, Calls Try.prog 43 #[.string S] W fun e' w' => ∃ (B : Option Addr) (c : Nat), e' = .returned (.tuple #[.agg #[.slice B l.length c, .int .i64 q1, .int .i64 q2], .int .i64 e]) ∧ (l.length ≤ c ∧ Kd.C (Kd.int .i64) w' B l.length l) ∧ Below W.heap.size W w'))) (CM : (Aside0 (Gives 62 #[.string S] (.tuple #[.agg #[.float .f64 z1, .int .i64 z2, .int .i64 z3, .int .i64 z4, .int .i64 z5, .bool zb], .int .i64 g])))) (CP : (Aside0 (Gives 58 #[.agg #[.float .f64 y1, .int .i64 y2, .int .i64 y3, .int .i64 y4, .int .i64 y5]] (.tuple #[.string S, .int .i64 0])))) :
    Calls Try.prog 12 #[.agg #[.float .f64 t, .int .i64 s, .int .i64 n, .int .i64 d, .int .i64 p, .bool anti, .int .u8 fl, .string S]] w fun e w' => e = .returned (.bool true) ∧ Below w.heap.size w w' := by
  have hu2 := Try.underlying42
  have hu3 := Try.underlying68
  have hu4 := Try.underlying73
  have hu5 := Try.underlying77
  have hu6 := Try.underlying48
  have hu7 := Try.underlying70
  have hd1 : decide ((200 : Int) < (S.size : Int)) = false := decide_eq_false (by omega)
  have HB := Aside0.mk (below_alloc (Below.refl w.heap.size w) (.cells #[.float .f64 t, .int .i64 s, .int .i64 n, .int .i64 d, .int .i64 p, .bool anti, .int .u8 fl, .string S] 70))
  have HQ := Aside0.mk (Blk.new w 70 #[.float .f64 t, .int .i64 s, .int .i64 n, .int .i64 d, .int .i64 p, .bool anti, .int .u8 fl, .string S])
  obtain ⟨cQ0, cQ1, cQ2, cQ3, cQ4, cQ5, cQ6, cQ7, fQ⟩ := blk_c8 HQ.out
  go_enter Try.func12, Try.ntmps12
  go_wp2_with fail
  go_region
  clear cQ0 cQ1 cQ2 cQ3 cQ4 cQ5 cQ6 cQ7 fQ HQ hu7
  have HE : Aside0 (Blk (((w.alloc (.cells #[.float .f64 t, .int .i64 s, .int .i64 n, .int .i64 d, .int .i64 p, .bool anti, .int .u8 fl, .string S] 70)).alloc (.cells #[.float .f64 t, .int .i64 s, .int .i64 n, .int .i64 d, .int .i64 p] 68)).drew) (w.heap.size + 1) 68 #[.float .f64 t, .int .i64 s, .int .i64 n, .int .i64 d, .int .i64 p]) := ⟨by have h := (Blk.new (w.alloc (.cells #[.float .f64 t, .int .i64 s, .int .i64 n, .int .i64 d, .int .i64 p, .bool anti, .int .u8 fl, .string S] 70)) 68 #[.float .f64 t, .int .i64 s, .int .i64 n, .int .i64 d, .int .i64 p]).drew; simpa using h⟩
  go_wp2_with fail
  refine (CR.out _).mono ?_
  rintro e w1 ⟨rfl, hk⟩
  replace HE : Aside0 (Blk w1 (w.heap.size + 1) 68 #[.float .f64 t, .int .i64 s, .int .i64 n, .int .i64 d, .int .i64 p]) := ⟨Blk.step blk hk⟩
  replace HB := Aside0.mk (below_step bel hk)
  have hsw1 := hk.size
  try simp at hsw1
  clear hk
  obtain ⟨cE0, cE1, cE2, cE3, cE4, fE⟩ := HE.out.c5
  have nEw1 : w.heap.size + 1 < w1.heap.size := by omega
  have uEw1 : ¬ w.heap.size + 1 = w1.heap.size := by omega
  go_wp2_with fail
  clear cE0 cE1 cE2 cE3 cE4 fE
  clear HE
  refine (CG.out _).mono ?_
  rintro e w2 ⟨rfl, hk⟩
  replace HB := Aside0.mk (below_step bel hk)
  have hsw2 := hk.size
  try simp at hsw2
  clear hk
  have HL := Aside0.mk (Blk.new w2 68 #[.float .f64 y1, .int .i64 y2, .int .i64 y3, .int .i64 y4, .int .i64 y5])
  go_wp2_with fail
  refine (CP.out _).mono ?_
  rintro e w3 ⟨rfl, hk⟩
  replace HL : Aside0 (Blk w3 (w2.heap.size) 68 #[.float .f64 y1, .int .i64 y2, .int .i64 y3, .int .i64 y4, .int .i64 y5]) := ⟨Blk.step blk hk⟩
  replace HB := Aside0.mk (below_step bel hk)
  have hsw3 := hk.size
  try simp at hsw3
  clear hk
  obtain ⟨cL0, cL1, cL2, cL3, cL4, fL⟩ := HL.out.c5
  have nLw3 : w2.heap.size < w3.heap.size := by omega
  have uLw3 : ¬ w2.heap.size = w3.heap.size := by omega
  go_wp2_with fail
  clear cL0 cL1 cL2 cL3 cL4 fL
  clear HL
  refine (CT.out _).mono ?_
  rintro e w4 ⟨B, c, rfl, ⟨hc, hK⟩, hk⟩
  replace HB := Aside0.mk (below_step bel hk)
  have hsw4 := hk.size
  try simp at hsw4
  clear hk
  clear hK hc
  go_wp2_with fail
  refine (CM.out _).mono ?_
  rintro e w5 ⟨rfl, hk⟩
  replace HB := Aside0.mk (below_step bel hk)
  have hsw5 := hk.size
  try simp at hsw5
  clear hk
  have HM := Aside0.mk (Blk.new w5 77 #[.float .f64 z1, .int .i64 z2, .int .i64 z3, .int .i64 z4, .int .i64 z5, .bool zb])
  go_wp2_with fail
  clear HM
  refine (RecF.awake_calls _).mono ?_
  rintro e w6 ⟨rfl, hk⟩
  replace HB := Aside0.mk (below_step bel hk)
  have hsw6 := hk.size
  try simp at hsw6
  clear hk
  go_wp2_with fail
  go_ret
  exact ⟨rfl, bel⟩


set_option maxRecDepth 100000 in
set_option maxHeartbeats 8000000 in
theorem walk_N_st (t : Nat) (s n d p : Int) (anti : Bool) (fl : Int) (S : ByteArray) (w : World) (y1 z1 : Nat) (y2 y3 y4 y5 z2 z3 z4 z5 q1 q2 : Int) (l : List Int) (zb : Bool) (f : Int) (hf : 1 ≤ f) (g : Int) (hg : 1 ≤ g)
    (h : S.size ≤ 200) (CR : (Aside0 (Gives 57 #[.agg #[.float .f64 t, .int .i64 s, .int .i64 n, .int .i64 d, .int .i64 p]] (.bool false)))) (CG : (Aside0 (Gives 61 #[.string S] (.tuple #[.agg #[.float .f64 y1, .int .i64 y2, .int .i64 y3, .int .i64 y4, .int .i64 y5], .int .i64 f]))))
    (CT : (Aside0 (∀ W, Calls Try.prog 43 #[.string S] W fun e' w' => ∃ (B : Option Addr) (c : Nat), e' = .returned (.tuple #[.agg #[.slice B l.length c, .int .i64 q1, .int .i64 q2], .int .i64 0]) ∧ (l.length ≤ c ∧ Kd.C (Kd.int .i64) w' B l.length l) ∧ Below W.heap.size W w'))) (CM : (Aside0 (Gives 62 #[.string S] (.tuple #[.agg #[.float .f64 z1, .int .i64 z2, .int .i64 z3, .int .i64 z4, .int .i64 z5, .bool zb], .int .i64 g]))))
    (CU : Aside0 (∀ W (B : Option Addr) (c : Nat), Kd.C (Kd.int .i64) W B l.length l → Calls Try.prog 42 #[.agg #[.slice B l.length c, .int .i64 q1, .int .i64 q2]] W fun e w' => e = .returned (.tuple #[.string S, .int .i64 0]) ∧ Below W.heap.size W w')) :
    Calls Try.prog 12 #[.agg #[.float .f64 t, .int .i64 s, .int .i64 n, .int .i64 d, .int .i64 p, .bool anti, .int .u8 fl, .string S]] w fun e w' => e = .returned (.bool true) ∧ Below w.heap.size w w' := by
  have hu2 := Try.underlying42
  have hu3 := Try.underlying68
  have hu4 := Try.underlying73
  have hu5 := Try.underlying77
  have hu6 := Try.underlying48
  have hu7 := Try.underlying70
  have hd1 : decide ((200 : Int) < (S.size : Int)) = false := decide_eq_false (by omega)
  have HB := Aside0.mk (below_alloc (Below.refl w.heap.size w) (.cells #[.float .f64 t, .int .i64 s, .int .i64 n, .int .i64 d, .int .i64 p, .bool anti, .int .u8 fl, .string S] 70))
  have HQ := Aside0.mk (Blk.new w 70 #[.float .f64 t, .int .i64 s, .int .i64 n, .int .i64 d, .int .i64 p, .bool anti, .int .u8 fl, .string S])
  obtain ⟨cQ0, cQ1, cQ2, cQ3, cQ4, cQ5, cQ6, cQ7, fQ⟩ := blk_c8 HQ.out
  go_enter Try.func12, Try.ntmps12
  go_wp2_with fail
  go_region
  clear cQ0 cQ1 cQ2 cQ3 cQ4 cQ5 cQ6 cQ7 fQ HQ hu7
  have HE : Aside0 (Blk (((w.alloc (.cells #[.float .f64 t, .int .i64 s, .int .i64 n, .int .i64 d, .int .i64 p, .bool anti, .int .u8 fl, .string S] 70)).alloc (.cells #[.float .f64 t, .int .i64 s, .int .i64 n, .int .i64 d, .int .i64 p] 68)).drew) (w.heap.size + 1) 68 #[.float .f64 t, .int .i64 s, .int .i64 n, .int .i64 d, .int .i64 p]) := ⟨by have h := (Blk.new (w.alloc (.cells #[.float .f64 t, .int .i64 s, .int .i64 n, .int .i64 d, .int .i64 p, .bool anti, .int .u8 fl, .string S] 70)) 68 #[.float .f64 t, .int .i64 s, .int .i64 n, .int .i64 d, .int .i64 p]).drew; simpa using h⟩
  go_wp2_with fail
  refine (CR.out _).mono ?_
  rintro e w1 ⟨rfl, hk⟩
  replace HE : Aside0 (Blk w1 (w.heap.size + 1) 68 #[.float .f64 t, .int .i64 s, .int .i64 n, .int .i64 d, .int .i64 p]) := ⟨Blk.step blk hk⟩
  replace HB := Aside0.mk (below_step bel hk)
  have hsw1 := hk.size
  try simp at hsw1
  clear hk
  obtain ⟨cE0, cE1, cE2, cE3, cE4, fE⟩ := HE.out.c5
  have nEw1 : w.heap.size + 1 < w1.heap.size := by omega
  have uEw1 : ¬ w.heap.size + 1 = w1.heap.size := by omega
  go_wp2_with fail
  clear cE0 cE1 cE2 cE3 cE4 fE
  clear HE
  refine (CG.out _).mono ?_
  rintro e w2 ⟨rfl, hk⟩
  replace HB := Aside0.mk (below_step bel hk)
  have hsw2 := hk.size
  try simp at hsw2
  clear hk
  have HL := Aside0.mk (Blk.new w2 68 #[.float .f64 y1, .int .i64 y2, .int .i64 y3, .int .i64 y4, .int .i64 y5])
  go_wp2_with fail
  clear HL
  refine (CT.out _).mono ?_
  rintro e w3 ⟨B, c, rfl, ⟨hc, hK⟩, hk⟩
  replace HB := Aside0.mk (below_step bel hk)
  have hsw3 := hk.size
  try simp at hsw3
  clear hk
  have KY := Aside0.mk hK
  clear hK hc
  have HT := Aside0.mk (Blk.new w3 48 #[.slice B l.length c, .int .i64 q1, .int .i64 q2])
  go_wp2_with fail
  refine (CU.out _ B c kc).mono ?_
  rintro e w4 ⟨rfl, hk⟩
  replace HT : Aside0 (Blk w4 (w3.heap.size) 48 #[.slice B l.length c, .int .i64 q1, .int .i64 q2]) := ⟨Blk.step blk hk⟩
  replace HB := Aside0.mk (below_step bel hk)
  have hsw4 := hk.size
  try simp at hsw4
  clear hk
  obtain ⟨cT0, cT1, cT2, fT⟩ := HT.out.c3
  have nTw4 : w3.heap.size < w4.heap.size := by omega
  have uTw4 : ¬ w3.heap.size = w4.heap.size := by omega
  go_wp2_with fail
  clear cT0 cT1 cT2 fT
  clear HT
  clear KY
  refine (CM.out _).mono ?_
  rintro e w5 ⟨rfl, hk⟩
  replace HB := Aside0.mk (below_step bel hk)
  have hsw5 := hk.size
  try simp at hsw5
  clear hk
  have HM := Aside0.mk (Blk.new w5 77 #[.float .f64 z1, .int .i64 z2, .int .i64 z3, .int .i64 z4, .int .i64 z5, .bool zb])
  go_wp2_with fail
  clear HM
  refine (RecF.awake_calls _).mono ?_
  rintro e w6 ⟨rfl, hk⟩
  replace HB := Aside0.mk (below_step bel hk)
  have hsw6 := hk.size
  try simp at hsw6
  clear hk
  go_wp2_with fail
  go_ret
  exact ⟨rfl, bel⟩


set_option maxRecDepth 100000 in
set_option maxHeartbeats 8000000 in
theorem walk_N_msg (t : Nat) (s n d p : Int) (anti : Bool) (fl : Int) (S : ByteArray) (w : World) (y1 z1 : Nat) (y2 y3 y4 y5 z2 z3 z4 z5 q1 q2 : Int) (l : List Int) (zb : Bool) (f : Int) (hf : 1 ≤ f) (e : Int) (he : 1 ≤ e)
    (h : S.size ≤ 200) (CR : (Aside0 (Gives 57 #[.agg #[.float .f64 t, .int .i64 s, .int .i64 n, .int .i64 d, .int .i64 p]] (.bool false)))) (CG : (Aside0 (Gives 61 #[.string S] (.tuple #[.agg #[.float .f64 y1, .int .i64 y2, .int .i64 y3, .int .i64 y4, .int .i64 y5], .int .i64 f]))))
    (CT : (Aside0 (∀ W, Calls Try.prog 43 #[.string S] W fun e' w' => ∃ (B : Option Addr) (c : Nat), e' = .returned (.tuple #[.agg #[.slice B l.length c, .int .i64 q1, .int .i64 q2], .int .i64 e]) ∧ (l.length ≤ c ∧ Kd.C (Kd.int .i64) w' B l.length l) ∧ Below W.heap.size W w'))) (CM : (Aside0 (Gives 62 #[.string S] (.tuple #[.agg #[.float .f64 z1, .int .i64 z2, .int .i64 z3, .int .i64 z4, .int .i64 z5, .bool zb], .int .i64 0])))) (CV : (Aside0 (Gives 59 #[.agg #[.float .f64 z1, .int .i64 z2, .int .i64 z3, .int .i64 z4, .int .i64 z5, .bool zb]] (.tuple #[.string S, .int .i64 0])))) :
    Calls Try.prog 12 #[.agg #[.float .f64 t, .int .i64 s, .int .i64 n, .int .i64 d, .int .i64 p, .bool anti, .int .u8 fl, .string S]] w fun e w' => e = .returned (.bool true) ∧ Below w.heap.size w w' := by
  have hu2 := Try.underlying42
  have hu3 := Try.underlying68
  have hu4 := Try.underlying73
  have hu5 := Try.underlying77
  have hu6 := Try.underlying48
  have hu7 := Try.underlying70
  have hd1 : decide ((200 : Int) < (S.size : Int)) = false := decide_eq_false (by omega)
  have HB := Aside0.mk (below_alloc (Below.refl w.heap.size w) (.cells #[.float .f64 t, .int .i64 s, .int .i64 n, .int .i64 d, .int .i64 p, .bool anti, .int .u8 fl, .string S] 70))
  have HQ := Aside0.mk (Blk.new w 70 #[.float .f64 t, .int .i64 s, .int .i64 n, .int .i64 d, .int .i64 p, .bool anti, .int .u8 fl, .string S])
  obtain ⟨cQ0, cQ1, cQ2, cQ3, cQ4, cQ5, cQ6, cQ7, fQ⟩ := blk_c8 HQ.out
  go_enter Try.func12, Try.ntmps12
  go_wp2_with fail
  go_region
  clear cQ0 cQ1 cQ2 cQ3 cQ4 cQ5 cQ6 cQ7 fQ HQ hu7
  have HE : Aside0 (Blk (((w.alloc (.cells #[.float .f64 t, .int .i64 s, .int .i64 n, .int .i64 d, .int .i64 p, .bool anti, .int .u8 fl, .string S] 70)).alloc (.cells #[.float .f64 t, .int .i64 s, .int .i64 n, .int .i64 d, .int .i64 p] 68)).drew) (w.heap.size + 1) 68 #[.float .f64 t, .int .i64 s, .int .i64 n, .int .i64 d, .int .i64 p]) := ⟨by have h := (Blk.new (w.alloc (.cells #[.float .f64 t, .int .i64 s, .int .i64 n, .int .i64 d, .int .i64 p, .bool anti, .int .u8 fl, .string S] 70)) 68 #[.float .f64 t, .int .i64 s, .int .i64 n, .int .i64 d, .int .i64 p]).drew; simpa using h⟩
  go_wp2_with fail
  refine (CR.out _).mono ?_
  rintro e w1 ⟨rfl, hk⟩
  replace HE : Aside0 (Blk w1 (w.heap.size + 1) 68 #[.float .f64 t, .int .i64 s, .int .i64 n, .int .i64 d, .int .i64 p]) := ⟨Blk.step blk hk⟩
  replace HB := Aside0.mk (below_step bel hk)
  have hsw1 := hk.size
  try simp at hsw1
  clear hk
  obtain ⟨cE0, cE1, cE2, cE3, cE4, fE⟩ := HE.out.c5
  have nEw1 : w.heap.size + 1 < w1.heap.size := by omega
  have uEw1 : ¬ w.heap.size + 1 = w1.heap.size := by omega
  go_wp2_with fail
  clear cE0 cE1 cE2 cE3 cE4 fE
  clear HE
  refine (CG.out _).mono ?_
  rintro e w2 ⟨rfl, hk⟩
  replace HB := Aside0.mk (below_step bel hk)
  have hsw2 := hk.size
  try simp at hsw2
  clear hk
  have HL := Aside0.mk (Blk.new w2 68 #[.float .f64 y1, .int .i64 y2, .int .i64 y3, .int .i64 y4, .int .i64 y5])
  go_wp2_with fail
  clear HL
  refine (CT.out _).mono ?_
  rintro e w3 ⟨B, c, rfl, ⟨hc, hK⟩, hk⟩
  replace HB := Aside0.mk (below_step bel hk)
  have hsw3 := hk.size
  try simp at hsw3
  clear hk
  clear hK hc
  go_wp2_with fail
  refine (CM.out _).mono ?_
  rintro e w4 ⟨rfl, hk⟩
  replace HB := Aside0.mk (below_step bel hk)
  have hsw4 := hk.size
  try simp at hsw4
  clear hk
  have HM := Aside0.mk (Blk.new w4 77 #[.float .f64 z1, .int .i64 z2, .int .i64 z3, .int .i64 z4, .int .i64 z5, .bool zb])
  go_wp2_with fail
  refine (CV.out _).mono ?_
  rintro e w5 ⟨rfl, hk⟩
  replace HM : Aside0 (Blk w5 (w4.heap.size) 77 #[.float .f64 z1, .int .i64 z2, .int .i64 z3, .int .i64 z4, .int .i64 z5, .bool zb]) := ⟨Blk.step blk hk⟩
  replace HB := Aside0.mk (below_step bel hk)
  have hsw5 := hk.size
  try simp at hsw5
  clear hk
  obtain ⟨cM0, cM1, cM2, cM3, cM4, cM5, fM⟩ := HM.out.c6
  have nMw5 : w4.heap.size < w5.heap.size := by omega
  have uMw5 : ¬ w4.heap.size = w5.heap.size := by omega
  go_wp2_with fail
  clear cM0 cM1 cM2 cM3 cM4 cM5 fM
  clear HM
  refine (RecF.awake_calls _).mono ?_
  rintro e w6 ⟨rfl, hk⟩
  replace HB := Aside0.mk (below_step bel hk)
  have hsw6 := hk.size
  try simp at hsw6
  clear hk
  go_wp2_with fail
  go_ret
  exact ⟨rfl, bel⟩

end Go.Proofs.Ytlbjcdfognofgaa.BackN
