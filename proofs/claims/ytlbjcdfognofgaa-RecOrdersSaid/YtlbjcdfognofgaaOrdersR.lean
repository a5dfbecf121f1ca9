/- The walk of RecOrders: of events for one process, keys are in the order of the events. -/
import Derived.Test.YtlbjcdfognofgaaRecG
import Derived.Deep.DrawnRows
import Derived.Deep.RegionHeld3
namespace Go.Proofs.Ytlbjcdfognofgaa.OrdersR
open Go.RowKit Go.Proofs.YtlbjcdfognofgaaW.PrintWords Go.Proofs.YtlbjcdfognofgaaW.PrintLast Go.Proofs.YtlbjcdfognofgaaW.PrintMore Go.Proofs.Ytlbjcdfognofgaa.Be Go.Proofs.Ytlbjcdfognofgaa.Fl Go.Proofs.Ytlbjcdfognofgaa.StampA Go.Proofs.Ytlbjcdfognofgaa.StampB Go.Proofs.Ytlbjcdfognofgaa.StampC Go.Proofs.Ytlbjcdfognofgaa.StampD Go.Proofs.Ytlbjcdfognofgaa.StampK Go.Proofs.Ytlbjcdfognofgaa.SRec Go.Proofs.Ytlbjcdfognofgaa.StampQ Go.Proofs.Ytlbjcdfognofgaa.StampR Go.Proofs.Ytlbjcdfognofgaa.Wk Go.Proofs.Ytlbjcdfognofgaa.RecA Go.Proofs.Ytlbjcdfognofgaa.RecB Go.Proofs.Ytlbjcdfognofgaa.RecC Go.Proofs.Ytlbjcdfognofgaa.RecD Go.Proofs.Ytlbjcdfognofgaa.RecE Go.Proofs.Ytlbjcdfognofgaa.RecF Go.Proofs.Ytlbjcdfognofgaa.RecG Go.Proofs.Ytlbjcdfognofgaa.OrdersS Go.Proofs.Ytlbjcdfognofgaa.BytesW Go.Proofs.Ytlbjcdfognofgaa.PRecStates
attribute [local go_sem ↓] Go.wp_at_zero Go.wp_at_succ
attribute [local go_sem] run_store_float
set_option linter.unusedVariables false


set_option maxRecDepth 100000 in
set_option maxHeartbeats 4000000 in
theorem walk_no1 (t : Nat) (s n d p : Int) (t2 : Nat) (s2 n2 d2 p2 : Int) (k l : ByteArray) (e f c : Int) (w : World)
    (CX : Aside0 (∀ w, Calls Try.prog 73 #[.agg #[.float .f64 t, .int .i64 s, .int .i64 n, .int .i64 d, .int .i64 p]] w fun r w' => r = .returned (.tuple #[.string k, .int .i64 e]) ∧ Below w.heap.size w w'))
    (CY : Aside0 (∀ w, Calls Try.prog 73 #[.agg #[.float .f64 t2, .int .i64 s2, .int .i64 n2, .int .i64 d, .int .i64 p2]] w fun r w' => r = .returned (.tuple #[.string l, .int .i64 f]) ∧ Below w.heap.size w w'))
    (CZ : Aside0 (∀ w, Calls Try.prog 74 #[.agg #[.float .f64 t, .int .i64 s, .int .i64 n, .int .i64 d, .int .i64 p], .agg #[.float .f64 t2, .int .i64 s2, .int .i64 n2, .int .i64 d, .int .i64 p2]] w fun r w' => r = .returned (.int .i64 c) ∧ Below w.heap.size w w'))
    (hc : 1 ≤ e) :
    Calls Try.prog 19 #[.agg #[.float .f64 t, .int .i64 s, .int .i64 n, .int .i64 d, .int .i64 p], .agg #[.float .f64 t2, .int .i64 s2, .int .i64 n2, .int .i64 d2, .int .i64 p2]] w fun e w' => e = .returned (.bool true) ∧ Below w.heap.size w w' := by
  have hu2 := Try.underlying42
  have hu3 := Try.underlying68
  skip
  have HB := Aside0.mk (below_alloc (below_alloc (Below.refl w.heap.size w) (.cells #[.float .f64 t, .int .i64 s, .int .i64 n, .int .i64 d, .int .i64 p] 68)) (.cells #[.float .f64 t2, .int .i64 s2, .int .i64 n2, .int .i64 d, .int .i64 p2] 68))
  have HA := Aside0.mk ((Blk.new w 68 #[.float .f64 t, .int .i64 s, .int .i64 n, .int .i64 d, .int .i64 p]).alloc (.cells #[.float .f64 t2, .int .i64 s2, .int .i64 n2, .int .i64 d, .int .i64 p2] 68))
  have HY : Aside0 (Blk ((w.alloc (.cells #[.float .f64 t, .int .i64 s, .int .i64 n, .int .i64 d, .int .i64 p] 68)).alloc (.cells #[.float .f64 t2, .int .i64 s2, .int .i64 n2, .int .i64 d, .int .i64 p2] 68)) (w.heap.size + 1) 68 #[.float .f64 t2, .int .i64 s2, .int .i64 n2, .int .i64 d, .int .i64 p2]) := Aside0.mk (by have h := Blk.new (w.alloc (.cells #[.float .f64 t, .int .i64 s, .int .i64 n, .int .i64 d, .int .i64 p] 68)) 68 #[.float .f64 t2, .int .i64 s2, .int .i64 n2, .int .i64 d, .int .i64 p2]; simpa using h)
  have nab : ¬ w.heap.size = w.heap.size + 1 := by omega
  have nba : ¬ w.heap.size + 1 = w.heap.size := by omega
  have hvb : w.heap.size ≤ w.heap.size + 1 := by omega
  go_enter Try.func19, Try.ntmps19
  go_wp2_with fail
  refine (CX.out _).mono ?_
  rintro e w1 ⟨rfl, hk⟩
  replace HA : Aside0 (Blk w1 (w.heap.size) 68 #[.float .f64 t, .int .i64 s, .int .i64 n, .int .i64 d, .int .i64 p]) := ⟨Blk.step blk hk⟩
  replace HY : Aside0 (Blk w1 (w.heap.size + 1) 68 #[.float .f64 t2, .int .i64 s2, .int .i64 n2, .int .i64 d, .int .i64 p2]) := ⟨Blk.step blk hk⟩
  replace HB := Aside0.mk (below_step bel hk)
  have hsw1 := hk.size
  try simp at hsw1
  clear hk
  obtain ⟨cA0, cA1, cA2, cA3, cA4, fA⟩ := HA.out.c5
  obtain ⟨cY0, cY1, cY2, cY3, cY4, fY⟩ := HY.out.c5
  go_wp2_with fail
  clear cA0 cA1 cA2 cA3 cA4 fA cY0 cY1 cY2 cY3 cY4 fY
  refine (CY.out _).mono ?_
  rintro e w2 ⟨rfl, hk⟩
  replace HA : Aside0 (Blk w2 (w.heap.size) 68 #[.float .f64 t, .int .i64 s, .int .i64 n, .int .i64 d, .int .i64 p]) := ⟨Blk.step blk hk⟩
  replace HY : Aside0 (Blk w2 (w.heap.size + 1) 68 #[.float .f64 t2, .int .i64 s2, .int .i64 n2, .int .i64 d, .int .i64 p2]) := ⟨Blk.step blk hk⟩
  replace HB := Aside0.mk (below_step bel hk)
  have hsw2 := hk.size
  try simp at hsw2
  clear hk
  obtain ⟨cA0, cA1, cA2, cA3, cA4, fA⟩ := HA.out.c5
  obtain ⟨cY0, cY1, cY2, cY3, cY4, fY⟩ := HY.out.c5
  go_wp2_with fail
  clear cA0 cA1 cA2 cA3 cA4 fA cY0 cY1 cY2 cY3 cY4 fY
  refine (RecF.awake_calls _).mono ?_
  rintro e w3 ⟨rfl, hk⟩
  replace HA : Aside0 (Blk w3 (w.heap.size) 68 #[.float .f64 t, .int .i64 s, .int .i64 n, .int .i64 d, .int .i64 p]) := ⟨Blk.step blk hk⟩
  replace HY : Aside0 (Blk w3 (w.heap.size + 1) 68 #[.float .f64 t2, .int .i64 s2, .int .i64 n2, .int .i64 d, .int .i64 p2]) := ⟨Blk.step blk hk⟩
  replace HB := Aside0.mk (below_step bel hk)
  have hsw3 := hk.size
  try simp at hsw3
  clear hk
  obtain ⟨cA0, cA1, cA2, cA3, cA4, fA⟩ := HA.out.c5
  obtain ⟨cY0, cY1, cY2, cY3, cY4, fY⟩ := HY.out.c5
  go_wp2_with fail
  go_ret
  exact ⟨by first | rfl | (simp [*]; done) | (simp; omega), bel⟩


set_option maxRecDepth 100000 in
set_option maxHeartbeats 4000000 in
theorem walk_no2 (t : Nat) (s n d p : Int) (t2 : Nat) (s2 n2 d2 p2 : Int) (k l : ByteArray) (e f c : Int) (w : World)
    (CX : Aside0 (∀ w, Calls Try.prog 73 #[.agg #[.float .f64 t, .int .i64 s, .int .i64 n, .int .i64 d, .int .i64 p]] w fun r w' => r = .returned (.tuple #[.string k, .int .i64 e]) ∧ Below w.heap.size w w'))
    (CY : Aside0 (∀ w, Calls Try.prog 73 #[.agg #[.float .f64 t2, .int .i64 s2, .int .i64 n2, .int .i64 d, .int .i64 p2]] w fun r w' => r = .returned (.tuple #[.string l, .int .i64 f]) ∧ Below w.heap.size w w'))
    (CZ : Aside0 (∀ w, Calls Try.prog 74 #[.agg #[.float .f64 t, .int .i64 s, .int .i64 n, .int .i64 d, .int .i64 p], .agg #[.float .f64 t2, .int .i64 s2, .int .i64 n2, .int .i64 d, .int .i64 p2]] w fun r w' => r = .returned (.int .i64 c) ∧ Below w.heap.size w w'))
    (hc : (e ≤ 0 ∧ 0 ≤ e) ∧ 1 ≤ f) :
    Calls Try.prog 19 #[.agg #[.float .f64 t, .int .i64 s, .int .i64 n, .int .i64 d, .int .i64 p], .agg #[.float .f64 t2, .int .i64 s2, .int .i64 n2, .int .i64 d2, .int .i64 p2]] w fun e w' => e = .returned (.bool true) ∧ Below w.heap.size w w' := by
  have hu2 := Try.underlying42
  have hu3 := Try.underlying68
  obtain ⟨⟨k1, k2⟩, k3⟩ := hc
  have HB := Aside0.mk (below_alloc (below_alloc (Below.refl w.heap.size w) (.cells #[.float .f64 t, .int .i64 s, .int .i64 n, .int .i64 d, .int .i64 p] 68)) (.cells #[.float .f64 t2, .int .i64 s2, .int .i64 n2, .int .i64 d, .int .i64 p2] 68))
  have HA := Aside0.mk ((Blk.new w 68 #[.float .f64 t, .int .i64 s, .int .i64 n, .int .i64 d, .int .i64 p]).alloc (.cells #[.float .f64 t2, .int .i64 s2, .int .i64 n2, .int .i64 d, .int .i64 p2] 68))
  have HY : Aside0 (Blk ((w.alloc (.cells #[.float .f64 t, .int .i64 s, .int .i64 n, .int .i64 d, .int .i64 p] 68)).alloc (.cells #[.float .f64 t2, .int .i64 s2, .int .i64 n2, .int .i64 d, .int .i64 p2] 68)) (w.heap.size + 1) 68 #[.float .f64 t2, .int .i64 s2, .int .i64 n2, .int .i64 d, .int .i64 p2]) := Aside0.mk (by have h := Blk.new (w.alloc (.cells #[.float .f64 t, .int .i64 s, .int .i64 n, .int .i64 d, .int .i64 p] 68)) 68 #[.float .f64 t2, .int .i64 s2, .int .i64 n2, .int .i64 d, .int .i64 p2]; simpa using h)
  have nab : ¬ w.heap.size = w.heap.size + 1 := by omega
  have nba : ¬ w.heap.size + 1 = w.heap.size := by omega
  have hvb : w.heap.size ≤ w.heap.size + 1 := by omega
  go_enter Try.func19, Try.ntmps19
  go_wp2_with fail
  refine (CX.out _).mono ?_
  rintro e w1 ⟨rfl, hk⟩
  replace HA : Aside0 (Blk w1 (w.heap.size) 68 #[.float .f64 t, .int .i64 s, .int .i64 n, .int .i64 d, .int .i64 p]) := ⟨Blk.step blk hk⟩
  replace HY : Aside0 (Blk w1 (w.heap.size + 1) 68 #[.float .f64 t2, .int .i64 s2, .int .i64 n2, .int .i64 d, .int .i64 p2]) := ⟨Blk.step blk hk⟩
  replace HB := Aside0.mk (below_step bel hk)
  have hsw1 := hk.size
  try simp at hsw1
  clear hk
  obtain ⟨cA0, cA1, cA2, cA3, cA4, fA⟩ := HA.out.c5
  obtain ⟨cY0, cY1, cY2, cY3, cY4, fY⟩ := HY.out.c5
  go_wp2_with fail
  clear cA0 cA1 cA2 cA3 cA4 fA cY0 cY1 cY2 cY3 cY4 fY
  refine (CY.out _).mono ?_
  rintro e w2 ⟨rfl, hk⟩
  replace HA : Aside0 (Blk w2 (w.heap.size) 68 #[.float .f64 t, .int .i64 s, .int .i64 n, .int .i64 d, .int .i64 p]) := ⟨Blk.step blk hk⟩
  replace HY : Aside0 (Blk w2 (w.heap.size + 1) 68 #[.float .f64 t2, .int .i64 s2, .int .i64 n2, .int .i64 d, .int .i64 p2]) := ⟨Blk.step blk hk⟩
  replace HB := Aside0.mk (below_step bel hk)
  have hsw2 := hk.size
  try simp at hsw2
  clear hk
  obtain ⟨cA0, cA1, cA2, cA3, cA4, fA⟩ := HA.out.c5
  obtain ⟨cY0, cY1, cY2, cY3, cY4, fY⟩ := HY.out.c5
  go_wp2_with fail
  clear cA0 cA1 cA2 cA3 cA4 fA cY0 cY1 cY2 cY3 cY4 fY
  refine (RecF.awake_calls _).mono ?_
  rintro e w3 ⟨rfl, hk⟩
  replace HA : Aside0 (Blk w3 (w.heap.size) 68 #[.float .f64 t, .int .i64 s, .int .i64 n, .int .i64 d, .int .i64 p]) := ⟨Blk.step blk hk⟩
  replace HY : Aside0 (Blk w3 (w.heap.size + 1) 68 #[.float .f64 t2, .int .i64 s2, .int .i64 n2, .int .i64 d, .int .i64 p2]) := ⟨Blk.step blk hk⟩
  replace HB := Aside0.mk (below_step bel hk)
  have hsw3 := hk.size
  try simp at hsw3
  clear hk
  obtain ⟨cA0, cA1, cA2, cA3, cA4, fA⟩ := HA.out.c5
  obtain ⟨cY0, cY1, cY2, cY3, cY4, fY⟩ := HY.out.c5
  go_wp2_with fail
  go_ret
  exact ⟨by first | rfl | (simp [*]; done) | (simp; omega), bel⟩


set_option maxRecDepth 100000 in
set_option maxHeartbeats 4000000 in
theorem walk_lt (t : Nat) (s n d p : Int) (t2 : Nat) (s2 n2 d2 p2 : Int) (k l : ByteArray) (e f c : Int) (w : World)
    (CX : Aside0 (∀ w, Calls Try.prog 73 #[.agg #[.float .f64 t, .int .i64 s, .int .i64 n, .int .i64 d, .int .i64 p]] w fun r w' => r = .returned (.tuple #[.string k, .int .i64 e]) ∧ Below w.heap.size w w'))
    (CY : Aside0 (∀ w, Calls Try.prog 73 #[.agg #[.float .f64 t2, .int .i64 s2, .int .i64 n2, .int .i64 d, .int .i64 p2]] w fun r w' => r = .returned (.tuple #[.string l, .int .i64 f]) ∧ Below w.heap.size w w'))
    (CZ : Aside0 (∀ w, Calls Try.prog 74 #[.agg #[.float .f64 t, .int .i64 s, .int .i64 n, .int .i64 d, .int .i64 p], .agg #[.float .f64 t2, .int .i64 s2, .int .i64 n2, .int .i64 d, .int .i64 p2]] w fun r w' => r = .returned (.int .i64 c) ∧ Below w.heap.size w w'))
    (hc : (e ≤ 0 ∧ 0 ≤ e) ∧ (f ≤ 0 ∧ 0 ≤ f) ∧ (c ≤ -1 ∧ Op.bytesLess k.toList l.toList = true ∧ (k.toList == l.toList) = false)) :
    Calls Try.prog 19 #[.agg #[.float .f64 t, .int .i64 s, .int .i64 n, .int .i64 d, .int .i64 p], .agg #[.float .f64 t2, .int .i64 s2, .int .i64 n2, .int .i64 d2, .int .i64 p2]] w fun e w' => e = .returned (.bool true) ∧ Below w.heap.size w w' := by
  have hu2 := Try.underlying42
  have hu3 := Try.underlying68
  obtain ⟨⟨k1, k2⟩, ⟨k3, k4⟩, k5, k6, k7⟩ := hc
  try (obtain ⟨k5, k8⟩ := k5)
  have HB := Aside0.mk (below_alloc (below_alloc (Below.refl w.heap.size w) (.cells #[.float .f64 t, .int .i64 s, .int .i64 n, .int .i64 d, .int .i64 p] 68)) (.cells #[.float .f64 t2, .int .i64 s2, .int .i64 n2, .int .i64 d, .int .i64 p2] 68))
  have HA := Aside0.mk ((Blk.new w 68 #[.float .f64 t, .int .i64 s, .int .i64 n, .int .i64 d, .int .i64 p]).alloc (.cells #[.float .f64 t2, .int .i64 s2, .int .i64 n2, .int .i64 d, .int .i64 p2] 68))
  have HY : Aside0 (Blk ((w.alloc (.cells #[.float .f64 t, .int .i64 s, .int .i64 n, .int .i64 d, .int .i64 p] 68)).alloc (.cells #[.float .f64 t2, .int .i64 s2, .int .i64 n2, .int .i64 d, .int .i64 p2] 68)) (w.heap.size + 1) 68 #[.float .f64 t2, .int .i64 s2, .int .i64 n2, .int .i64 d, .int .i64 p2]) := Aside0.mk (by have h := Blk.new (w.alloc (.cells #[.float .f64 t, .int .i64 s, .int .i64 n, .int .i64 d, .int .i64 p] 68)) 68 #[.float .f64 t2, .int .i64 s2, .int .i64 n2, .int .i64 d, .int .i64 p2]; simpa using h)
  have nab : ¬ w.heap.size = w.heap.size + 1 := by omega
  have nba : ¬ w.heap.size + 1 = w.heap.size := by omega
  have hvb : w.heap.size ≤ w.heap.size + 1 := by omega
  go_enter Try.func19, Try.ntmps19
  go_wp2_with fail
  refine (CX.out _).mono ?_
  rintro e w1 ⟨rfl, hk⟩
  replace HA : Aside0 (Blk w1 (w.heap.size) 68 #[.float .f64 t, .int .i64 s, .int .i64 n, .int .i64 d, .int .i64 p]) := ⟨Blk.step blk hk⟩
  replace HY : Aside0 (Blk w1 (w.heap.size + 1) 68 #[.float .f64 t2, .int .i64 s2, .int .i64 n2, .int .i64 d, .int .i64 p2]) := ⟨Blk.step blk hk⟩
  replace HB := Aside0.mk (below_step bel hk)
  have hsw1 := hk.size
  try simp at hsw1
  clear hk
  obtain ⟨cA0, cA1, cA2, cA3, cA4, fA⟩ := HA.out.c5
  obtain ⟨cY0, cY1, cY2, cY3, cY4, fY⟩ := HY.out.c5
  go_wp2_with fail
  clear cA0 cA1 cA2 cA3 cA4 fA cY0 cY1 cY2 cY3 cY4 fY
  refine (CY.out _).mono ?_
  rintro e w2 ⟨rfl, hk⟩
  replace HA : Aside0 (Blk w2 (w.heap.size) 68 #[.float .f64 t, .int .i64 s, .int .i64 n, .int .i64 d, .int .i64 p]) := ⟨Blk.step blk hk⟩
  replace HY : Aside0 (Blk w2 (w.heap.size + 1) 68 #[.float .f64 t2, .int .i64 s2, .int .i64 n2, .int .i64 d, .int .i64 p2]) := ⟨Blk.step blk hk⟩
  replace HB := Aside0.mk (below_step bel hk)
  have hsw2 := hk.size
  try simp at hsw2
  clear hk
  obtain ⟨cA0, cA1, cA2, cA3, cA4, fA⟩ := HA.out.c5
  obtain ⟨cY0, cY1, cY2, cY3, cY4, fY⟩ := HY.out.c5
  go_wp2_with fail
  clear cA0 cA1 cA2 cA3 cA4 fA cY0 cY1 cY2 cY3 cY4 fY
  refine (CZ.out _).mono ?_
  rintro e w3 ⟨rfl, hk⟩
  replace HA : Aside0 (Blk w3 (w.heap.size) 68 #[.float .f64 t, .int .i64 s, .int .i64 n, .int .i64 d, .int .i64 p]) := ⟨Blk.step blk hk⟩
  replace HY : Aside0 (Blk w3 (w.heap.size + 1) 68 #[.float .f64 t2, .int .i64 s2, .int .i64 n2, .int .i64 d, .int .i64 p2]) := ⟨Blk.step blk hk⟩
  replace HB := Aside0.mk (below_step bel hk)
  have hsw3 := hk.size
  try simp at hsw3
  clear hk
  obtain ⟨cA0, cA1, cA2, cA3, cA4, fA⟩ := HA.out.c5
  obtain ⟨cY0, cY1, cY2, cY3, cY4, fY⟩ := HY.out.c5
  go_wp2_with fail
  clear cA0 cA1 cA2 cA3 cA4 fA cY0 cY1 cY2 cY3 cY4 fY
  refine (RecF.awake_calls _).mono ?_
  rintro e w4 ⟨rfl, hk⟩
  replace HA : Aside0 (Blk w4 (w.heap.size) 68 #[.float .f64 t, .int .i64 s, .int .i64 n, .int .i64 d, .int .i64 p]) := ⟨Blk.step blk hk⟩
  replace HY : Aside0 (Blk w4 (w.heap.size + 1) 68 #[.float .f64 t2, .int .i64 s2, .int .i64 n2, .int .i64 d, .int .i64 p2]) := ⟨Blk.step blk hk⟩
  replace HB := Aside0.mk (below_step bel hk)
  have hsw4 := hk.size
  try simp at hsw4
  clear hk
  obtain ⟨cA0, cA1, cA2, cA3, cA4, fA⟩ := HA.out.c5
  obtain ⟨cY0, cY1, cY2, cY3, cY4, fY⟩ := HY.out.c5
  go_wp2_with fail
  go_ret
  exact ⟨by first | rfl | (simp [*]; done) | (simp; omega), bel⟩


set_option maxRecDepth 100000 in
set_option maxHeartbeats 4000000 in
theorem walk_eq (t : Nat) (s n d p : Int) (t2 : Nat) (s2 n2 d2 p2 : Int) (k l : ByteArray) (e f c : Int) (w : World)
    (CX : Aside0 (∀ w, Calls Try.prog 73 #[.agg #[.float .f64 t, .int .i64 s, .int .i64 n, .int .i64 d, .int .i64 p]] w fun r w' => r = .returned (.tuple #[.string k, .int .i64 e]) ∧ Below w.heap.size w w'))
    (CY : Aside0 (∀ w, Calls Try.prog 73 #[.agg #[.float .f64 t2, .int .i64 s2, .int .i64 n2, .int .i64 d, .int .i64 p2]] w fun r w' => r = .returned (.tuple #[.string l, .int .i64 f]) ∧ Below w.heap.size w w'))
    (CZ : Aside0 (∀ w, Calls Try.prog 74 #[.agg #[.float .f64 t, .int .i64 s, .int .i64 n, .int .i64 d, .int .i64 p], .agg #[.float .f64 t2, .int .i64 s2, .int .i64 n2, .int .i64 d, .int .i64 p2]] w fun r w' => r = .returned (.int .i64 c) ∧ Below w.heap.size w w'))
    (hc : (e ≤ 0 ∧ 0 ≤ e) ∧ (f ≤ 0 ∧ 0 ≤ f) ∧ ((c ≤ 0 ∧ 0 ≤ c) ∧ Op.bytesLess k.toList l.toList = false ∧ (k.toList == l.toList) = true)) :
    Calls Try.prog 19 #[.agg #[.float .f64 t, .int .i64 s, .int .i64 n, .int .i64 d, .int .i64 p], .agg #[.float .f64 t2, .int .i64 s2, .int .i64 n2, .int .i64 d2, .int .i64 p2]] w fun e w' => e = .returned (.bool true) ∧ Below w.heap.size w w' := by
  have hu2 := Try.underlying42
  have hu3 := Try.underlying68
  obtain ⟨⟨k1, k2⟩, ⟨k3, k4⟩, k5, k6, k7⟩ := hc
  try (obtain ⟨k5, k8⟩ := k5)
  have HB := Aside0.mk (below_alloc (below_alloc (Below.refl w.heap.size w) (.cells #[.float .f64 t, .int .i64 s, .int .i64 n, .int .i64 d, .int .i64 p] 68)) (.cells #[.float .f64 t2, .int .i64 s2, .int .i64 n2, .int .i64 d, .int .i64 p2] 68))
  have HA := Aside0.mk ((Blk.new w 68 #[.float .f64 t, .int .i64 s, .int .i64 n, .int .i64 d, .int .i64 p]).alloc (.cells #[.float .f64 t2, .int .i64 s2, .int .i64 n2, .int .i64 d, .int .i64 p2] 68))
  have HY : Aside0 (Blk ((w.alloc (.cells #[.float .f64 t, .int .i64 s, .int .i64 n, .int .i64 d, .int .i64 p] 68)).alloc (.cells #[.float .f64 t2, .int .i64 s2, .int .i64 n2, .int .i64 d, .int .i64 p2] 68)) (w.heap.size + 1) 68 #[.float .f64 t2, .int .i64 s2, .int .i64 n2, .int .i64 d, .int .i64 p2]) := Aside0.mk (by have h := Blk.new (w.alloc (.cells #[.float .f64 t, .int .i64 s, .int .i64 n, .int .i64 d, .int .i64 p] 68)) 68 #[.float .f64 t2, .int .i64 s2, .int .i64 n2, .int .i64 d, .int .i64 p2]; simpa using h)
  have nab : ¬ w.heap.size = w.heap.size + 1 := by omega
  have nba : ¬ w.heap.size + 1 = w.heap.size := by omega
  have hvb : w.heap.size ≤ w.heap.size + 1 := by omega
  go_enter Try.func19, Try.ntmps19
  go_wp2_with fail
  refine (CX.out _).mono ?_
  rintro e w1 ⟨rfl, hk⟩
  replace HA : Aside0 (Blk w1 (w.heap.size) 68 #[.float .f64 t, .int .i64 s, .int .i64 n, .int .i64 d, .int .i64 p]) := ⟨Blk.step blk hk⟩
  replace HY : Aside0 (Blk w1 (w.heap.size + 1) 68 #[.float .f64 t2, .int .i64 s2, .int .i64 n2, .int .i64 d, .int .i64 p2]) := ⟨Blk.step blk hk⟩
  replace HB := Aside0.mk (below_step bel hk)
  have hsw1 := hk.size
  try simp at hsw1
  clear hk
  obtain ⟨cA0, cA1, cA2, cA3, cA4, fA⟩ := HA.out.c5
  obtain ⟨cY0, cY1, cY2, cY3, cY4, fY⟩ := HY.out.c5
  go_wp2_with fail
  clear cA0 cA1 cA2 cA3 cA4 fA cY0 cY1 cY2 cY3 cY4 fY
  refine (CY.out _).mono ?_
  rintro e w2 ⟨rfl, hk⟩
  replace HA : Aside0 (Blk w2 (w.heap.size) 68 #[.float .f64 t, .int .i64 s, .int .i64 n, .int .i64 d, .int .i64 p]) := ⟨Blk.step blk hk⟩
  replace HY : Aside0 (Blk w2 (w.heap.size + 1) 68 #[.float .f64 t2, .int .i64 s2, .int .i64 n2, .int .i64 d, .int .i64 p2]) := ⟨Blk.step blk hk⟩
  replace HB := Aside0.mk (below_step bel hk)
  have hsw2 := hk.size
  try simp at hsw2
  clear hk
  obtain ⟨cA0, cA1, cA2, cA3, cA4, fA⟩ := HA.out.c5
  obtain ⟨cY0, cY1, cY2, cY3, cY4, fY⟩ := HY.out.c5
  go_wp2_with fail
  clear cA0 cA1 cA2 cA3 cA4 fA cY0 cY1 cY2 cY3 cY4 fY
  refine (CZ.out _).mono ?_
  rintro e w3 ⟨rfl, hk⟩
  replace HA : Aside0 (Blk w3 (w.heap.size) 68 #[.float .f64 t, .int .i64 s, .int .i64 n, .int .i64 d, .int .i64 p]) := ⟨Blk.step blk hk⟩
  replace HY : Aside0 (Blk w3 (w.heap.size + 1) 68 #[.float .f64 t2, .int .i64 s2, .int .i64 n2, .int .i64 d, .int .i64 p2]) := ⟨Blk.step blk hk⟩
  replace HB := Aside0.mk (below_step bel hk)
  have hsw3 := hk.size
  try simp at hsw3
  clear hk
  obtain ⟨cA0, cA1, cA2, cA3, cA4, fA⟩ := HA.out.c5
  obtain ⟨cY0, cY1, cY2, cY3, cY4, fY⟩ := HY.out.c5
  go_wp2_with fail
  clear cA0 cA1 cA2 cA3 cA4 fA cY0 cY1 cY2 cY3 cY4 fY
  refine (RecF.awake_calls _).mono ?_
  rintro e w4 ⟨rfl, hk⟩
  replace HA : Aside0 (Blk w4 (w.heap.size) 68 #[.float .f64 t, .int .i64 s, .int .i64 n, .int .i64 d, .int .i64 p]) := ⟨Blk.step blk hk⟩
  replace HY : Aside0 (Blk w4 (w.heap.size + 1) 68 #[.float .f64 t2, .int .i64 s2, .int .i64 n2, .int .i64 d, .int .i64 p2]) := ⟨Blk.step blk hk⟩
  replace HB := Aside0.mk (below_step bel hk)
  have hsw4 := hk.size
  try simp at hsw4
  clear hk
  obtain ⟨cA0, cA1, cA2, cA3, cA4, fA⟩ := HA.out.c5
  obtain ⟨cY0, cY1, cY2, cY3, cY4, fY⟩ := HY.out.c5
  go_wp2_with fail
  go_ret
  exact ⟨by first | rfl | (simp [*]; done) | (simp; omega), bel⟩


set_option maxRecDepth 100000 in
set_option maxHeartbeats 4000000 in
theorem walk_gt (t : Nat) (s n d p : Int) (t2 : Nat) (s2 n2 d2 p2 : Int) (k l : ByteArray) (e f c : Int) (w : World)
    (CX : Aside0 (∀ w, Calls Try.prog 73 #[.agg #[.float .f64 t, .int .i64 s, .int .i64 n, .int .i64 d, .int .i64 p]] w fun r w' => r = .returned (.tuple #[.string k, .int .i64 e]) ∧ Below w.heap.size w w'))
    (CY : Aside0 (∀ w, Calls Try.prog 73 #[.agg #[.float .f64 t2, .int .i64 s2, .int .i64 n2, .int .i64 d, .int .i64 p2]] w fun r w' => r = .returned (.tuple #[.string l, .int .i64 f]) ∧ Below w.heap.size w w'))
    (CZ : Aside0 (∀ w, Calls Try.prog 74 #[.agg #[.float .f64 t, .int .i64 s, .int .i64 n, .int .i64 d, .int .i64 p], .agg #[.float .f64 t2, .int .i64 s2, .int .i64 n2, .int .i64 d, .int .i64 p2]] w fun r w' => r = .returned (.int .i64 c) ∧ Below w.heap.size w w'))
    (hc : (e ≤ 0 ∧ 0 ≤ e) ∧ (f ≤ 0 ∧ 0 ≤ f) ∧ (1 ≤ c ∧ Op.bytesLess k.toList l.toList = false ∧ (k.toList == l.toList) = false)) :
    Calls Try.prog 19 #[.agg #[.float .f64 t, .int .i64 s, .int .i64 n, .int .i64 d, .int .i64 p], .agg #[.float .f64 t2, .int .i64 s2, .int .i64 n2, .int .i64 d2, .int .i64 p2]] w fun e w' => e = .returned (.bool true) ∧ Below w.heap.size w w' := by
  have hu2 := Try.underlying42
  have hu3 := Try.underlying68
  obtain ⟨⟨k1, k2⟩, ⟨k3, k4⟩, k5, k6, k7⟩ := hc
  try (obtain ⟨k5, k8⟩ := k5)
  have HB := Aside0.mk (below_alloc (below_alloc (Below.refl w.heap.size w) (.cells #[.float .f64 t, .int .i64 s, .int .i64 n, .int .i64 d, .int .i64 p] 68)) (.cells #[.float .f64 t2, .int .i64 s2, .int .i64 n2, .int .i64 d, .int .i64 p2] 68))
  have HA := Aside0.mk ((Blk.new w 68 #[.float .f64 t, .int .i64 s, .int .i64 n, .int .i64 d, .int .i64 p]).alloc (.cells #[.float .f64 t2, .int .i64 s2, .int .i64 n2, .int .i64 d, .int .i64 p2] 68))
  have HY : Aside0 (Blk ((w.alloc (.cells #[.float .f64 t, .int .i64 s, .int .i64 n, .int .i64 d, .int .i64 p] 68)).alloc (.cells #[.float .f64 t2, .int .i64 s2, .int .i64 n2, .int .i64 d, .int .i64 p2] 68)) (w.heap.size + 1) 68 #[.float .f64 t2, .int .i64 s2, .int .i64 n2, .int .i64 d, .int .i64 p2]) := Aside0.mk (by have h := Blk.new (w.alloc (.cells #[.float .f64 t, .int .i64 s, .int .i64 n, .int .i64 d, .int .i64 p] 68)) 68 #[.float .f64 t2, .int .i64 s2, .int .i64 n2, .int .i64 d, .int .i64 p2]; simpa using h)
  have nab : ¬ w.heap.size = w.heap.size + 1 := by omega
  have nba : ¬ w.heap.size + 1 = w.heap.size := by omega
  have hvb : w.heap.size ≤ w.heap.size + 1 := by omega
  go_enter Try.func19, Try.ntmps19
  go_wp2_with fail
  refine (CX.out _).mono ?_
  rintro e w1 ⟨rfl, hk⟩
  replace HA : Aside0 (Blk w1 (w.heap.size) 68 #[.float .f64 t, .int .i64 s, .int .i64 n, .int .i64 d, .int .i64 p]) := ⟨Blk.step blk hk⟩
  replace HY : Aside0 (Blk w1 (w.heap.size + 1) 68 #[.float .f64 t2, .int .i64 s2, .int .i64 n2, .int .i64 d, .int .i64 p2]) := ⟨Blk.step blk hk⟩
  replace HB := Aside0.mk (below_step bel hk)
  have hsw1 := hk.size
  try simp at hsw1
  clear hk
  obtain ⟨cA0, cA1, cA2, cA3, cA4, fA⟩ := HA.out.c5
  obtain ⟨cY0, cY1, cY2, cY3, cY4, fY⟩ := HY.out.c5
  go_wp2_with fail
  clear cA0 cA1 cA2 cA3 cA4 fA cY0 cY1 cY2 cY3 cY4 fY
  refine (CY.out _).mono ?_
  rintro e w2 ⟨rfl, hk⟩
  replace HA : Aside0 (Blk w2 (w.heap.size) 68 #[.float .f64 t, .int .i64 s, .int .i64 n, .int .i64 d, .int .i64 p]) := ⟨Blk.step blk hk⟩
  replace HY : Aside0 (Blk w2 (w.heap.size + 1) 68 #[.float .f64 t2, .int .i64 s2, .int .i64 n2, .int .i64 d, .int .i64 p2]) := ⟨Blk.step blk hk⟩
  replace HB := Aside0.mk (below_step bel hk)
  have hsw2 := hk.size
  try simp at hsw2
  clear hk
  obtain ⟨cA0, cA1, cA2, cA3, cA4, fA⟩ := HA.out.c5
  obtain ⟨cY0, cY1, cY2, cY3, cY4, fY⟩ := HY.out.c5
  go_wp2_with fail
  clear cA0 cA1 cA2 cA3 cA4 fA cY0 cY1 cY2 cY3 cY4 fY
  refine (CZ.out _).mono ?_
  rintro e w3 ⟨rfl, hk⟩
  replace HA : Aside0 (Blk w3 (w.heap.size) 68 #[.float .f64 t, .int .i64 s, .int .i64 n, .int .i64 d, .int .i64 p]) := ⟨Blk.step blk hk⟩
  replace HY : Aside0 (Blk w3 (w.heap.size + 1) 68 #[.float .f64 t2, .int .i64 s2, .int .i64 n2, .int .i64 d, .int .i64 p2]) := ⟨Blk.step blk hk⟩
  replace HB := Aside0.mk (below_step bel hk)
  have hsw3 := hk.size
  try simp at hsw3
  clear hk
  obtain ⟨cA0, cA1, cA2, cA3, cA4, fA⟩ := HA.out.c5
  obtain ⟨cY0, cY1, cY2, cY3, cY4, fY⟩ := HY.out.c5
  go_wp2_with fail
  clear cA0 cA1 cA2 cA3 cA4 fA cY0 cY1 cY2 cY3 cY4 fY
  refine (RecF.awake_calls _).mono ?_
  rintro e w4 ⟨rfl, hk⟩
  replace HA : Aside0 (Blk w4 (w.heap.size) 68 #[.float .f64 t, .int .i64 s, .int .i64 n, .int .i64 d, .int .i64 p]) := ⟨Blk.step blk hk⟩
  replace HY : Aside0 (Blk w4 (w.heap.size + 1) 68 #[.float .f64 t2, .int .i64 s2, .int .i64 n2, .int .i64 d, .int .i64 p2]) := ⟨Blk.step blk hk⟩
  replace HB := Aside0.mk (below_step bel hk)
  have hsw4 := hk.size
  try simp at hsw4
  clear hk
  obtain ⟨cA0, cA1, cA2, cA3, cA4, fA⟩ := HA.out.c5
  obtain ⟨cY0, cY1, cY2, cY3, cY4, fY⟩ := HY.out.c5
  go_wp2_with fail
  go_ret
  exact ⟨by first | rfl | (simp [*]; done) | (simp; omega), bel⟩


theorem less_one (a b : Int) : less [a] [b] = decide (a < b) := by simp [less]

theorem evK_list (t : Nat) (s n p : Int) : evK t s n p = strOfNums (be8 (kb (norm t)) ++ [s + 1] ++ be8 (n + 9223372036854775808) ++ be8 (p + 9223372036854775808)) := by
  rw [evK, strOfNums_append, strOfNums_append, strOfNums_append]

theorem evK_range (t : Nat) (s n p : Int) (hs : -1 ≤ s ∧ s < 6) : ∀ x ∈ be8 (kb (norm t)) ++ [s + 1] ++ be8 (n + 9223372036854775808) ++ be8 (p + 9223372036854775808), 0 ≤ x ∧ x ≤ 255 := by
  intro x hx
  simp only [List.mem_append, List.mem_singleton] at hx
  rcases hx with ((h | h) | h) | h
  · exact be8_range _ x h
  · omega
  · exact be8_range _ x h
  · exact be8_range _ x h

theorem cons_beq (a b : Int) : ([a] == [b]) = (a == b) := by simp

theorem keys_less (t t2 : Nat) (s n p s2 n2 p2 : Int) (ht : t < 18446744073709551616) (ht2 : t2 < 18446744073709551616) (hs : -1 ≤ s ∧ s < 6) (hs2 : -1 ≤ s2 ∧ s2 < 6)
    (hn : -9223372036854775808 ≤ n ∧ n < 9223372036854775808) (hn2 : -9223372036854775808 ≤ n2 ∧ n2 < 9223372036854775808) (hp : -9223372036854775808 ≤ p ∧ p < 9223372036854775808) (hp2 : -9223372036854775808 ≤ p2 ∧ p2 < 9223372036854775808) :
    Op.bytesLess (evK t s n p).toList (evK t2 s2 n2 p2).toList = decide (kb (norm t) < kb (norm t2) ∨ kb (norm t) = kb (norm t2) ∧ (s < s2 ∨ s = s2 ∧ (n < n2 ∨ n = n2 ∧ p < p2))) ∧
    ((evK t s n p).toList == (evK t2 s2 n2 p2).toList) = decide (kb (norm t) = kb (norm t2) ∧ s = s2 ∧ n = n2 ∧ p = p2) := by
  have ra := kb_range (norm_lt ht)
  have rb := kb_range (norm_lt ht2)
  rw [evK_list, evK_list, less_strOfNums _ _ (evK_range t s n p hs) (evK_range t2 s2 n2 p2 hs2), beq_strOfNums _ _ (evK_range t s n p hs) (evK_range t2 s2 n2 p2 hs2)]
  constructor
  · rw [less_append _ _ _ _ (by simp [be8_length]), less_append _ _ _ _ (by simp [be8_length]), less_append _ _ _ _ (by simp [be8_length]), less_be8 _ _ ra rb, less_one, less_be8 _ _ (by omega) (by omega), less_be8 _ _ (by omega) (by omega)]
    rw [Bool.eq_iff_iff]
    simp only [Bool.or_eq_true, Bool.and_eq_true, decide_eq_true_eq, beq_iff_eq]
    have h1 : (be8 (kb (norm t)) ++ [s + 1] ++ be8 (n + 9223372036854775808) = be8 (kb (norm t2)) ++ [s2 + 1] ++ be8 (n2 + 9223372036854775808)) ↔ (kb (norm t) = kb (norm t2) ∧ s = s2 ∧ n = n2) := by
      constructor
      · intro h
        obtain ⟨h1, h2⟩ := List.append_inj h (by simp [be8_length])
        obtain ⟨h3, h4⟩ := List.append_inj h1 (by simp [be8_length])
        have h5 := be8_inj ra rb h3
        have h6 := be8_inj (by omega) (by omega) h2
        simp only [List.cons.injEq, and_true] at h4
        exact ⟨h5, by omega, by omega⟩
      · rintro ⟨h5, rfl, rfl⟩; rw [h5]
    have h2 : (be8 (kb (norm t)) ++ [s + 1] = be8 (kb (norm t2)) ++ [s2 + 1]) ↔ (kb (norm t) = kb (norm t2) ∧ s = s2) := by
      constructor
      · intro h
        obtain ⟨h3, h4⟩ := List.append_inj h (by simp [be8_length])
        have h5 := be8_inj ra rb h3
        simp only [List.cons.injEq, and_true] at h4
        exact ⟨h5, by omega⟩
      · rintro ⟨h5, rfl⟩; rw [h5]
    have h3 : (be8 (kb (norm t)) = be8 (kb (norm t2))) ↔ kb (norm t) = kb (norm t2) := ⟨fun h => be8_inj ra rb h, fun h => by rw [h]⟩
    rw [h1, h2, h3]
    omega
  · rw [Bool.eq_iff_iff]
    simp only [beq_iff_eq, decide_eq_true_eq]
    constructor
    · intro h
      obtain ⟨h1, h2⟩ := List.append_inj h (by simp [be8_length])
      obtain ⟨h3, h4⟩ := List.append_inj h1 (by simp [be8_length])
      obtain ⟨h7, h8⟩ := List.append_inj h3 (by simp [be8_length])
      have h5 := be8_inj ra rb h7
      have h6 := be8_inj (by omega) (by omega) h4
      have h9 := be8_inj (by omega) (by omega) h2
      simp only [List.cons.injEq, and_true] at h8
      exact ⟨h5, by omega, by omega, by omega⟩
    · rintro ⟨h5, rfl, rfl, rfl⟩; rw [h5]

theorem cmpE_cases (t t2 : Nat) (d s s2 n n2 p p2 : Int) :
    (cmpE t t2 d d s s2 n n2 p p2 = -1 ∧ (tkey t < tkey t2 ∨ tkey t = tkey t2 ∧ (s < s2 ∨ s = s2 ∧ (n < n2 ∨ n = n2 ∧ p < p2)))) ∨
    (cmpE t t2 d d s s2 n n2 p p2 = 0 ∧ tkey t = tkey t2 ∧ s = s2 ∧ n = n2 ∧ p = p2) ∨
    (cmpE t t2 d d s s2 n n2 p p2 = 1 ∧ (tkey t2 < tkey t ∨ tkey t = tkey t2 ∧ (s2 < s ∨ s = s2 ∧ (n2 < n ∨ n = n2 ∧ p2 < p)))) := by
  have hd : cmpI d d = 0 := by rw [cmpI, if_neg (by omega), if_neg (by omega)]
  unfold cmpE
  rw [hd]
  rcases cmpI_cases (tkey t) (tkey t2) with ⟨h1, c1⟩ | ⟨h1, c1⟩ | ⟨h1, c1⟩
  · rw [c1, if_pos (by decide)]; exact .inl ⟨rfl, .inl h1⟩
  · rw [c1, if_neg (by decide), if_neg (by decide)]
    rcases cmpI_cases s s2 with ⟨h2, c2⟩ | ⟨h2, c2⟩ | ⟨h2, c2⟩
    · rw [c2, if_pos (by decide)]; exact .inl ⟨rfl, .inr ⟨h1, .inl h2⟩⟩
    · rw [c2, if_neg (by decide)]
      rcases cmpI_cases n n2 with ⟨h3, c3⟩ | ⟨h3, c3⟩ | ⟨h3, c3⟩
      · rw [c3, if_pos (by decide)]; exact .inl ⟨rfl, .inr ⟨h1, .inr ⟨h2, .inl h3⟩⟩⟩
      · rw [c3, if_neg (by decide)]
        rcases cmpI_cases p p2 with ⟨h4, c4⟩ | ⟨h4, c4⟩ | ⟨h4, c4⟩
        · rw [c4]; exact .inl ⟨rfl, .inr ⟨h1, .inr ⟨h2, .inr ⟨h3, h4⟩⟩⟩⟩
        · rw [c4]; exact .inr (.inl ⟨rfl, h1, h2, h3, h4⟩)
        · rw [c4]; exact .inr (.inr ⟨rfl, .inr ⟨h1, .inr ⟨h2, .inr ⟨h3, h4⟩⟩⟩⟩)
      · rw [c3, if_pos (by decide)]; exact .inr (.inr ⟨rfl, .inr ⟨h1, .inr ⟨h2, .inl h3⟩⟩⟩)
    · rw [c2, if_pos (by decide)]; exact .inr (.inr ⟨rfl, .inr ⟨h1, .inl h2⟩⟩)
  · rw [c1, if_pos (by decide)]; exact .inr (.inr ⟨rfl, .inl h1⟩)

theorem law (t : Nat) (s n d p : Int) (t2 : Nat) (s2 n2 d2 p2 : Int) {w : World} (h1 : (Lit.float .f64 t).wf = true) (h2 : (Lit.int .i64 s).wf = true) (h3 : (Lit.int .i64 n).wf = true) (h4 : (Lit.int .i64 d).wf = true) (h5 : (Lit.int .i64 p).wf = true)
    (g1 : (Lit.float .f64 t2).wf = true) (g2 : (Lit.int .i64 s2).wf = true) (g3 : (Lit.int .i64 n2).wf = true) (g4 : (Lit.int .i64 d2).wf = true) (g5 : (Lit.int .i64 p2).wf = true) :
    Calls Try.prog 19 #[.agg #[.float .f64 t, .int .i64 s, .int .i64 n, .int .i64 d, .int .i64 p], .agg #[.float .f64 t2, .int .i64 s2, .int .i64 n2, .int .i64 d2, .int .i64 p2]] w fun e w' => e = .returned (.bool true) ∧ Below w.heap.size w w' := by
  have ht : t < 18446744073709551616 := of_decide_eq_true h1
  have ht2 : t2 < 18446744073709551616 := of_decide_eq_true g1
  have hp := wf_i64 h5
  have hp2 := wf_i64 g5
  have CX := fun w => key_calls t s n d p ht hp w
  have CY := fun w => key_calls t2 s2 n2 d p2 ht2 hp2 w
  by_cases hr : rightB t s n d = true
  · rw [if_pos hr, if_pos hr] at CX
    by_cases hr2 : rightB t2 s2 n2 d = true
    · rw [if_pos hr2, if_pos hr2] at CY
      obtain ⟨a1, a2, a3, a4⟩ := rightB_true hr
      obtain ⟨b1, b2, b3, b4⟩ := rightB_true hr2
      obtain ⟨L1, L2⟩ := keys_less t t2 s n p s2 n2 p2 ht ht2 a2 b2 (by omega) (by omega) hp hp2
      have ra := kb_range (norm_lt ht)
      have rb := kb_range (norm_lt ht2)
      have va := kb_val ht a1
      have vb := kb_val ht2 b1
      have ta := tkey_num a1
      have tb := tkey_num b1
      have hk : (kb (norm t) < kb (norm t2) ↔ tkey t < tkey t2) ∧ (kb (norm t) = kb (norm t2) ↔ tkey t = tkey t2) := by
        rw [va, vb, ta, tb]
        split <;> split <;> omega
      obtain ⟨q1, q2⟩ := hk
      clear va vb ta tb
      rcases cmpE_cases t t2 d s s2 n n2 p p2 with ⟨k0, k⟩ | ⟨k0, k⟩ | ⟨k0, k⟩
      · exact walk_lt t s n d p t2 s2 n2 d2 p2 _ _ 0 0 _ w ⟨CX⟩ ⟨CY⟩ ⟨fun w => compare74_calls _ _ _ _ _ _ _ _ _ _ w⟩ ⟨⟨Int.le_refl 0, Int.le_refl 0⟩, ⟨Int.le_refl 0, Int.le_refl 0⟩, by omega, by rw [L1]; exact decide_eq_true (by omega), by rw [L2]; exact decide_eq_false (by omega)⟩
      · exact walk_eq t s n d p t2 s2 n2 d2 p2 _ _ 0 0 _ w ⟨CX⟩ ⟨CY⟩ ⟨fun w => compare74_calls _ _ _ _ _ _ _ _ _ _ w⟩ ⟨⟨Int.le_refl 0, Int.le_refl 0⟩, ⟨Int.le_refl 0, Int.le_refl 0⟩, by omega, by rw [L1]; exact decide_eq_false (by omega), by rw [L2]; exact decide_eq_true (by omega)⟩
      · exact walk_gt t s n d p t2 s2 n2 d2 p2 _ _ 0 0 _ w ⟨CX⟩ ⟨CY⟩ ⟨fun w => compare74_calls _ _ _ _ _ _ _ _ _ _ w⟩ ⟨⟨Int.le_refl 0, Int.le_refl 0⟩, ⟨Int.le_refl 0, Int.le_refl 0⟩, by omega, by rw [L1]; exact decide_eq_false (by omega), by rw [L2]; exact decide_eq_false (by omega)⟩
    · rw [if_neg hr2, if_neg hr2] at CY
      exact walk_no2 t s n d p t2 s2 n2 d2 p2 _ _ 0 2 _ w ⟨CX⟩ ⟨CY⟩ ⟨fun w => compare74_calls _ _ _ _ _ _ _ _ _ _ w⟩ ⟨⟨Int.le_refl 0, Int.le_refl 0⟩, by decide⟩
  · rw [if_neg hr, if_neg hr] at CX
    exact walk_no1 t s n d p t2 s2 n2 d2 p2 _ _ 2 _ _ w ⟨CX⟩ ⟨CY⟩ ⟨fun w => compare74_calls _ _ _ _ _ _ _ _ _ _ w⟩ (by decide)

end Go.Proofs.Ytlbjcdfognofgaa.OrdersR
