/- The walk of RecReads: what any bytes are, read as an event, a key, a message, what was handled. -/
import Derived.Test.YtlbjcdfognofgaaRecL
import Derived.Deep.DrawnRows
import Derived.Deep.RegionHeld3
namespace Go.Proofs.Ytlbjcdfognofgaa.ReadsR
open Go.RowKit Go.Proofs.YtlbjcdfognofgaaW.PrintWords Go.Proofs.YtlbjcdfognofgaaW.PrintLast Go.Proofs.YtlbjcdfognofgaaW.PrintMore Go.Proofs.Ytlbjcdfognofgaa.Be Go.Proofs.Ytlbjcdfognofgaa.Fl Go.Proofs.Ytlbjcdfognofgaa.StampA Go.Proofs.Ytlbjcdfognofgaa.StampB Go.Proofs.Ytlbjcdfognofgaa.StampC Go.Proofs.Ytlbjcdfognofgaa.StampD Go.Proofs.Ytlbjcdfognofgaa.StampK Go.Proofs.Ytlbjcdfognofgaa.SRec Go.Proofs.Ytlbjcdfognofgaa.StampQ Go.Proofs.Ytlbjcdfognofgaa.StampR Go.Proofs.Ytlbjcdfognofgaa.Wk Go.Proofs.Ytlbjcdfognofgaa.RecA Go.Proofs.Ytlbjcdfognofgaa.RecB Go.Proofs.Ytlbjcdfognofgaa.RecC Go.Proofs.Ytlbjcdfognofgaa.RecD Go.Proofs.Ytlbjcdfognofgaa.RecE Go.Proofs.Ytlbjcdfognofgaa.RecF Go.Proofs.Ytlbjcdfognofgaa.RecI Go.Proofs.Ytlbjcdfognofgaa.PRecStates Go.Proofs.Ytlbjcdfognofgaa.RecK Go.Proofs.Ytlbjcdfognofgaa.RecL
attribute [local go_sem ↓] Go.wp_at_zero Go.wp_at_succ
attribute [local go_sem] run_store_float
set_option linter.unusedVariables false


set_option maxRecDepth 100000 in
set_option maxHeartbeats 8000000 in
theorem walk_big (s : ByteArray) (dst e g k l : Int) (a1 c1 m1 x1 y1 z1 : Nat) (a2 a3 a4 a5 c2 c3 c4 c5 m2 m3 m4 m5 x2 x3 x4 x5 xf y2 y3 y4 y5 z2 z3 z4 z5 : Int) (mb : Bool) (w : World) (hs : 200 < s.size)
    (CA : Aside0 (Gives 61 #[.string s] (.tuple #[.agg #[.float .f64 a1, .int .i64 a2, .int .i64 a3, .int .i64 a4, .int .i64 a5], .int .i64 e]))) (CB : Aside0 (Gives 77 #[.string s] (.tuple #[.agg #[.float .f64 a1, .int .i64 a2, .int .i64 a3, .int .i64 a4, .int .i64 a5], .int .i64 e])))
    (CC : Aside0 (Gives 78 #[.string s, .int .i64 dst] (.tuple #[.agg #[.float .f64 c1, .int .i64 c2, .int .i64 c3, .int .i64 c4, .int .i64 c5], .int .i64 g]))) (CD : Aside0 (Gives 79 #[.string s, .int .i64 dst] (.tuple #[.agg #[.float .f64 c1, .int .i64 c2, .int .i64 c3, .int .i64 c4, .int .i64 c5], .int .i64 g]))) :
    Calls Try.prog 21 #[.string s, .int .i64 dst] w fun e w' => e = .returned (.bool true) ∧ Below w.heap.size w w' := by
  have HB := Aside0.mk (Below.refl w.heap.size w)
  go_enter Try.func21, Try.ntmps21
  go_wp2_with fail
  refine (RecF.awake_calls _).mono ?_
  rintro e w1 ⟨rfl, hk⟩
  replace HB := Aside0.mk (below_step bel hk)
  have hsw1 := hk.size
  try simp at hsw1
  clear hk
  go_wp2_with fail
  go_ret
  exact ⟨rfl, bel⟩


set_option maxRecDepth 100000 in
set_option maxHeartbeats 8000000 in
theorem walk_short (s : ByteArray) (dst e g k l : Int) (a1 c1 m1 x1 y1 z1 : Nat) (a2 a3 a4 a5 c2 c3 c4 c5 m2 m3 m4 m5 x2 x3 x4 x5 xf y2 y3 y4 y5 z2 z3 z4 z5 : Int) (mb : Bool) (w : World) (hs : s.size < 27)
    (CA : Aside0 (Gives 61 #[.string s] (.tuple #[.agg #[.float .f64 a1, .int .i64 a2, .int .i64 a3, .int .i64 a4, .int .i64 a5], .int .i64 e]))) (CB : Aside0 (Gives 77 #[.string s] (.tuple #[.agg #[.float .f64 a1, .int .i64 a2, .int .i64 a3, .int .i64 a4, .int .i64 a5], .int .i64 e])))
    (CC : Aside0 (Gives 78 #[.string s, .int .i64 dst] (.tuple #[.agg #[.float .f64 c1, .int .i64 c2, .int .i64 c3, .int .i64 c4, .int .i64 c5], .int .i64 g]))) (CD : Aside0 (Gives 79 #[.string s, .int .i64 dst] (.tuple #[.agg #[.float .f64 c1, .int .i64 c2, .int .i64 c3, .int .i64 c4, .int .i64 c5], .int .i64 g])))
    (CM : Aside0 (Gives 62 #[.string s] (.tuple #[.agg #[.float .f64 m1, .int .i64 m2, .int .i64 m3, .int .i64 m4, .int .i64 m5, .bool mb], .int .i64 5]))) (CX : Aside0 (Gives 63 #[.string s] (.tuple #[.agg #[.float .f64 x1, .int .i64 x2, .int .i64 x3, .int .i64 x4, .int .i64 x5, .int .i64 xf], .int .i64 5]))) :
    Calls Try.prog 21 #[.string s, .int .i64 dst] w fun e w' => e = .returned (.bool true) ∧ Below w.heap.size w w' := by
  have HB := Aside0.mk (Below.refl w.heap.size w)
  have hu2 := Try.underlying42
  have hu3 := Try.underlying68
  have hu4 := Try.underlying73
  have hu5 := Try.underlying77
  go_enter Try.func21, Try.ntmps21
  go_wp2_with fail
  refine (CA.out _).mono ?_
  rintro e w1 ⟨rfl, hk⟩
  replace HB := Aside0.mk (below_step bel hk)
  have hsw1 := hk.size
  try simp at hsw1
  clear hk
  have HA := Aside0.mk (Blk.new w1 68 #[.float .f64 a1, .int .i64 a2, .int .i64 a3, .int .i64 a4, .int .i64 a5])
  go_wp2_with fail
  refine (CB.out _).mono ?_
  rintro e w2 ⟨rfl, hk⟩
  replace HA : Aside0 (Blk w2 (w1.heap.size) 68 #[.float .f64 a1, .int .i64 a2, .int .i64 a3, .int .i64 a4, .int .i64 a5]) := ⟨Blk.step blk hk⟩
  replace HB := Aside0.mk (below_step bel hk)
  have hsw2 := hk.size
  try simp at hsw2
  clear hk
  obtain ⟨cA0, cA1, cA2, cA3, cA4, fA⟩ := HA.out.c5
  have nAw2 : w1.heap.size < w2.heap.size := by omega
  have uAw2 : ¬ w1.heap.size = w2.heap.size := by omega
  have HU := Aside0.mk (Blk.new w2 68 #[.float .f64 a1, .int .i64 a2, .int .i64 a3, .int .i64 a4, .int .i64 a5])
  go_wp2_with fail
  clear cA0 cA1 cA2 cA3 cA4 fA
  refine (CC.out _).mono ?_
  rintro e w3 ⟨rfl, hk⟩
  replace HA : Aside0 (Blk w3 (w1.heap.size) 68 #[.float .f64 a1, .int .i64 a2, .int .i64 a3, .int .i64 a4, .int .i64 a5]) := ⟨Blk.step blk hk⟩
  replace HU : Aside0 (Blk w3 (w2.heap.size) 68 #[.float .f64 a1, .int .i64 a2, .int .i64 a3, .int .i64 a4, .int .i64 a5]) := ⟨Blk.step blk hk⟩
  replace HB := Aside0.mk (below_step bel hk)
  have hsw3 := hk.size
  try simp at hsw3
  clear hk
  obtain ⟨cA0, cA1, cA2, cA3, cA4, fA⟩ := HA.out.c5
  obtain ⟨cU0, cU1, cU2, cU3, cU4, fU⟩ := HU.out.c5
  have nAw3 : w1.heap.size < w3.heap.size := by omega
  have uAw3 : ¬ w1.heap.size = w3.heap.size := by omega
  have nUw3 : w2.heap.size < w3.heap.size := by omega
  have uUw3 : ¬ w2.heap.size = w3.heap.size := by omega
  have HC := Aside0.mk (Blk.new w3 68 #[.float .f64 c1, .int .i64 c2, .int .i64 c3, .int .i64 c4, .int .i64 c5])
  go_wp2_with fail
  clear cA0 cA1 cA2 cA3 cA4 fA cU0 cU1 cU2 cU3 cU4 fU
  refine (CD.out _).mono ?_
  rintro e w4 ⟨rfl, hk⟩
  replace HA : Aside0 (Blk w4 (w1.heap.size) 68 #[.float .f64 a1, .int .i64 a2, .int .i64 a3, .int .i64 a4, .int .i64 a5]) := ⟨Blk.step blk hk⟩
  replace HU : Aside0 (Blk w4 (w2.heap.size) 68 #[.float .f64 a1, .int .i64 a2, .int .i64 a3, .int .i64 a4, .int .i64 a5]) := ⟨Blk.step blk hk⟩
  replace HC : Aside0 (Blk w4 (w3.heap.size) 68 #[.float .f64 c1, .int .i64 c2, .int .i64 c3, .int .i64 c4, .int .i64 c5]) := ⟨Blk.step blk hk⟩
  replace HB := Aside0.mk (below_step bel hk)
  have hsw4 := hk.size
  try simp at hsw4
  clear hk
  obtain ⟨cA0, cA1, cA2, cA3, cA4, fA⟩ := HA.out.c5
  obtain ⟨cU0, cU1, cU2, cU3, cU4, fU⟩ := HU.out.c5
  obtain ⟨cC0, cC1, cC2, cC3, cC4, fC⟩ := HC.out.c5
  have nAw4 : w1.heap.size < w4.heap.size := by omega
  have uAw4 : ¬ w1.heap.size = w4.heap.size := by omega
  have nUw4 : w2.heap.size < w4.heap.size := by omega
  have uUw4 : ¬ w2.heap.size = w4.heap.size := by omega
  have nCw4 : w3.heap.size < w4.heap.size := by omega
  have uCw4 : ¬ w3.heap.size = w4.heap.size := by omega
  have HD := Aside0.mk (Blk.new w4 68 #[.float .f64 c1, .int .i64 c2, .int .i64 c3, .int .i64 c4, .int .i64 c5])
  go_wp2_with fail
  clear cA0 cA1 cA2 cA3 cA4 fA cU0 cU1 cU2 cU3 cU4 fU cC0 cC1 cC2 cC3 cC4 fC
  refine (same64_calls _ _ _ _ _ _).mono ?_
  rintro e w5 ⟨rfl, hk⟩
  replace HA : Aside0 (Blk w5 (w1.heap.size) 68 #[.float .f64 a1, .int .i64 a2, .int .i64 a3, .int .i64 a4, .int .i64 a5]) := ⟨Blk.step blk hk⟩
  replace HU : Aside0 (Blk w5 (w2.heap.size) 68 #[.float .f64 a1, .int .i64 a2, .int .i64 a3, .int .i64 a4, .int .i64 a5]) := ⟨Blk.step blk hk⟩
  replace HC : Aside0 (Blk w5 (w3.heap.size) 68 #[.float .f64 c1, .int .i64 c2, .int .i64 c3, .int .i64 c4, .int .i64 c5]) := ⟨Blk.step blk hk⟩
  replace HD : Aside0 (Blk w5 (w4.heap.size) 68 #[.float .f64 c1, .int .i64 c2, .int .i64 c3, .int .i64 c4, .int .i64 c5]) := ⟨Blk.step blk hk⟩
  replace HB := Aside0.mk (below_step bel hk)
  have hsw5 := hk.size
  try simp at hsw5
  clear hk
  obtain ⟨cA0, cA1, cA2, cA3, cA4, fA⟩ := HA.out.c5
  obtain ⟨cU0, cU1, cU2, cU3, cU4, fU⟩ := HU.out.c5
  obtain ⟨cC0, cC1, cC2, cC3, cC4, fC⟩ := HC.out.c5
  obtain ⟨cD0, cD1, cD2, cD3, cD4, fD⟩ := HD.out.c5
  have nAw5 : w1.heap.size < w5.heap.size := by omega
  have uAw5 : ¬ w1.heap.size = w5.heap.size := by omega
  have nUw5 : w2.heap.size < w5.heap.size := by omega
  have uUw5 : ¬ w2.heap.size = w5.heap.size := by omega
  have nCw5 : w3.heap.size < w5.heap.size := by omega
  have uCw5 : ¬ w3.heap.size = w5.heap.size := by omega
  have nDw5 : w4.heap.size < w5.heap.size := by omega
  have uDw5 : ¬ w4.heap.size = w5.heap.size := by omega
  go_wp2_with fail
  clear cA0 cA1 cA2 cA3 cA4 fA cU0 cU1 cU2 cU3 cU4 fU cC0 cC1 cC2 cC3 cC4 fC cD0 cD1 cD2 cD3 cD4 fD
  clear HA
  clear HU
  refine (same64_calls _ _ _ _ _ _).mono ?_
  rintro e w6 ⟨rfl, hk⟩
  replace HC : Aside0 (Blk w6 (w3.heap.size) 68 #[.float .f64 c1, .int .i64 c2, .int .i64 c3, .int .i64 c4, .int .i64 c5]) := ⟨Blk.step blk hk⟩
  replace HD : Aside0 (Blk w6 (w4.heap.size) 68 #[.float .f64 c1, .int .i64 c2, .int .i64 c3, .int .i64 c4, .int .i64 c5]) := ⟨Blk.step blk hk⟩
  replace HB := Aside0.mk (below_step bel hk)
  have hsw6 := hk.size
  try simp at hsw6
  clear hk
  obtain ⟨cC0, cC1, cC2, cC3, cC4, fC⟩ := HC.out.c5
  obtain ⟨cD0, cD1, cD2, cD3, cD4, fD⟩ := HD.out.c5
  have nCw6 : w3.heap.size < w6.heap.size := by omega
  have uCw6 : ¬ w3.heap.size = w6.heap.size := by omega
  have nDw6 : w4.heap.size < w6.heap.size := by omega
  have uDw6 : ¬ w4.heap.size = w6.heap.size := by omega
  go_wp2_with fail
  clear cC0 cC1 cC2 cC3 cC4 fC cD0 cD1 cD2 cD3 cD4 fD
  clear HC
  clear HD
  refine (RecF.awake_calls _).mono ?_
  rintro e w7 ⟨rfl, hk⟩
  replace HB := Aside0.mk (below_step bel hk)
  have hsw7 := hk.size
  try simp at hsw7
  clear hk
  go_wp2_with fail
  refine (CM.out _).mono ?_
  rintro e w8 ⟨rfl, hk⟩
  replace HB := Aside0.mk (below_step bel hk)
  have hsw8 := hk.size
  try simp at hsw8
  clear hk
  have HM := Aside0.mk (Blk.new w8 77 #[.float .f64 m1, .int .i64 m2, .int .i64 m3, .int .i64 m4, .int .i64 m5, .bool mb])
  go_wp2_with fail
  refine (CX.out _).mono ?_
  rintro e w9 ⟨rfl, hk⟩
  replace HM : Aside0 (Blk w9 (w8.heap.size) 77 #[.float .f64 m1, .int .i64 m2, .int .i64 m3, .int .i64 m4, .int .i64 m5, .bool mb]) := ⟨Blk.step blk hk⟩
  replace HB := Aside0.mk (below_step bel hk)
  have hsw9 := hk.size
  try simp at hsw9
  clear hk
  obtain ⟨cM0, cM1, cM2, cM3, cM4, cM5, fM⟩ := HM.out.c6
  have nMw9 : w8.heap.size < w9.heap.size := by omega
  have uMw9 : ¬ w8.heap.size = w9.heap.size := by omega
  have HX := Aside0.mk (Blk.new w9 73 #[.float .f64 x1, .int .i64 x2, .int .i64 x3, .int .i64 x4, .int .i64 x5, .int .i64 xf])
  go_wp2_with fail
  go_ret
  exact ⟨rfl, bel⟩


set_option maxRecDepth 100000 in
set_option maxHeartbeats 8000000 in
theorem walk_long (s : ByteArray) (dst e g k l : Int) (a1 c1 m1 x1 y1 z1 : Nat) (a2 a3 a4 a5 c2 c3 c4 c5 m2 m3 m4 m5 x2 x3 x4 x5 xf y2 y3 y4 y5 z2 z3 z4 z5 : Int) (mb : Bool) (w : World) (hs : 27 < s.size ∧ s.size ≤ 200)
    (CA : Aside0 (Gives 61 #[.string s] (.tuple #[.agg #[.float .f64 a1, .int .i64 a2, .int .i64 a3, .int .i64 a4, .int .i64 a5], .int .i64 e]))) (CB : Aside0 (Gives 77 #[.string s] (.tuple #[.agg #[.float .f64 a1, .int .i64 a2, .int .i64 a3, .int .i64 a4, .int .i64 a5], .int .i64 e])))
    (CC : Aside0 (Gives 78 #[.string s, .int .i64 dst] (.tuple #[.agg #[.float .f64 c1, .int .i64 c2, .int .i64 c3, .int .i64 c4, .int .i64 c5], .int .i64 g]))) (CD : Aside0 (Gives 79 #[.string s, .int .i64 dst] (.tuple #[.agg #[.float .f64 c1, .int .i64 c2, .int .i64 c3, .int .i64 c4, .int .i64 c5], .int .i64 g])))
    (CM : Aside0 (Gives 62 #[.string s] (.tuple #[.agg #[.float .f64 m1, .int .i64 m2, .int .i64 m3, .int .i64 m4, .int .i64 m5, .bool mb], .int .i64 6]))) (CX : Aside0 (Gives 63 #[.string s] (.tuple #[.agg #[.float .f64 x1, .int .i64 x2, .int .i64 x3, .int .i64 x4, .int .i64 x5, .int .i64 xf], .int .i64 6]))) :
    Calls Try.prog 21 #[.string s, .int .i64 dst] w fun e w' => e = .returned (.bool true) ∧ Below w.heap.size w w' := by
  have HB := Aside0.mk (Below.refl w.heap.size w)
  have hu2 := Try.underlying42
  have hu3 := Try.underlying68
  have hu4 := Try.underlying73
  have hu5 := Try.underlying77
  obtain ⟨hs1, hs2⟩ := hs
  go_enter Try.func21, Try.ntmps21
  go_wp2_with fail
  refine (CA.out _).mono ?_
  rintro e w1 ⟨rfl, hk⟩
  replace HB := Aside0.mk (below_step bel hk)
  have hsw1 := hk.size
  try simp at hsw1
  clear hk
  have HA := Aside0.mk (Blk.new w1 68 #[.float .f64 a1, .int .i64 a2, .int .i64 a3, .int .i64 a4, .int .i64 a5])
  go_wp2_with fail
  refine (CB.out _).mono ?_
  rintro e w2 ⟨rfl, hk⟩
  replace HA : Aside0 (Blk w2 (w1.heap.size) 68 #[.float .f64 a1, .int .i64 a2, .int .i64 a3, .int .i64 a4, .int .i64 a5]) := ⟨Blk.step blk hk⟩
  replace HB := Aside0.mk (below_step bel hk)
  have hsw2 := hk.size
  try simp at hsw2
  clear hk
  obtain ⟨cA0, cA1, cA2, cA3, cA4, fA⟩ := HA.out.c5
  have nAw2 : w1.heap.size < w2.heap.size := by omega
  have uAw2 : ¬ w1.heap.size = w2.heap.size := by omega
  have HU := Aside0.mk (Blk.new w2 68 #[.float .f64 a1, .int .i64 a2, .int .i64 a3, .int .i64 a4, .int .i64 a5])
  go_wp2_with fail
  clear cA0 cA1 cA2 cA3 cA4 fA
  refine (CC.out _).mono ?_
  rintro e w3 ⟨rfl, hk⟩
  replace HA : Aside0 (Blk w3 (w1.heap.size) 68 #[.float .f64 a1, .int .i64 a2, .int .i64 a3, .int .i64 a4, .int .i64 a5]) := ⟨Blk.step blk hk⟩
  replace HU : Aside0 (Blk w3 (w2.heap.size) 68 #[.float .f64 a1, .int .i64 a2, .int .i64 a3, .int .i64 a4, .int .i64 a5]) := ⟨Blk.step blk hk⟩
  replace HB := Aside0.mk (below_step bel hk)
  have hsw3 := hk.size
  try simp at hsw3
  clear hk
  obtain ⟨cA0, cA1, cA2, cA3, cA4, fA⟩ := HA.out.c5
  obtain ⟨cU0, cU1, cU2, cU3, cU4, fU⟩ := HU.out.c5
  have nAw3 : w1.heap.size < w3.heap.size := by omega
  have uAw3 : ¬ w1.heap.size = w3.heap.size := by omega
  have nUw3 : w2.heap.size < w3.heap.size := by omega
  have uUw3 : ¬ w2.heap.size = w3.heap.size := by omega
  have HC := Aside0.mk (Blk.new w3 68 #[.float .f64 c1, .int .i64 c2, .int .i64 c3, .int .i64 c4, .int .i64 c5])
  go_wp2_with fail
  clear cA0 cA1 cA2 cA3 cA4 fA cU0 cU1 cU2 cU3 cU4 fU
  refine (CD.out _).mono ?_
  rintro e w4 ⟨rfl, hk⟩
  replace HA : Aside0 (Blk w4 (w1.heap.size) 68 #[.float .f64 a1, .int .i64 a2, .int .i64 a3, .int .i64 a4, .int .i64 a5]) := ⟨Blk.step blk hk⟩
  replace HU : Aside0 (Blk w4 (w2.heap.size) 68 #[.float .f64 a1, .int .i64 a2, .int .i64 a3, .int .i64 a4, .int .i64 a5]) := ⟨Blk.step blk hk⟩
  replace HC : Aside0 (Blk w4 (w3.heap.size) 68 #[.float .f64 c1, .int .i64 c2, .int .i64 c3, .int .i64 c4, .int .i64 c5]) := ⟨Blk.step blk hk⟩
  replace HB := Aside0.mk (below_step bel hk)
  have hsw4 := hk.size
  try simp at hsw4
  clear hk
  obtain ⟨cA0, cA1, cA2, cA3, cA4, fA⟩ := HA.out.c5
  obtain ⟨cU0, cU1, cU2, cU3, cU4, fU⟩ := HU.out.c5
  obtain ⟨cC0, cC1, cC2, cC3, cC4, fC⟩ := HC.out.c5
  have nAw4 : w1.heap.size < w4.heap.size := by omega
  have uAw4 : ¬ w1.heap.size = w4.heap.size := by omega
  have nUw4 : w2.heap.size < w4.heap.size := by omega
  have uUw4 : ¬ w2.heap.size = w4.heap.size := by omega
  have nCw4 : w3.heap.size < w4.heap.size := by omega
  have uCw4 : ¬ w3.heap.size = w4.heap.size := by omega
  have HD := Aside0.mk (Blk.new w4 68 #[.float .f64 c1, .int .i64 c2, .int .i64 c3, .int .i64 c4, .int .i64 c5])
  go_wp2_with fail
  clear cA0 cA1 cA2 cA3 cA4 fA cU0 cU1 cU2 cU3 cU4 fU cC0 cC1 cC2 cC3 cC4 fC
  refine (same64_calls _ _ _ _ _ _).mono ?_
  rintro e w5 ⟨rfl, hk⟩
  replace HA : Aside0 (Blk w5 (w1.heap.size) 68 #[.float .f64 a1, .int .i64 a2, .int .i64 a3, .int .i64 a4, .int .i64 a5]) := ⟨Blk.step blk hk⟩
  replace HU : Aside0 (Blk w5 (w2.heap.size) 68 #[.float .f64 a1, .int .i64 a2, .int .i64 a3, .int .i64 a4, .int .i64 a5]) := ⟨Blk.step blk hk⟩
  replace HC : Aside0 (Blk w5 (w3.heap.size) 68 #[.float .f64 c1, .int .i64 c2, .int .i64 c3, .int .i64 c4, .int .i64 c5]) := ⟨Blk.step blk hk⟩
  replace HD : Aside0 (Blk w5 (w4.heap.size) 68 #[.float .f64 c1, .int .i64 c2, .int .i64 c3, .int .i64 c4, .int .i64 c5]) := ⟨Blk.step blk hk⟩
  replace HB := Aside0.mk (below_step bel hk)
  have hsw5 := hk.size
  try simp at hsw5
  clear hk
  obtain ⟨cA0, cA1, cA2, cA3, cA4, fA⟩ := HA.out.c5
  obtain ⟨cU0, cU1, cU2, cU3, cU4, fU⟩ := HU.out.c5
  obtain ⟨cC0, cC1, cC2, cC3, cC4, fC⟩ := HC.out.c5
  obtain ⟨cD0, cD1, cD2, cD3, cD4, fD⟩ := HD.out.c5
  have nAw5 : w1.heap.size < w5.heap.size := by omega
  have uAw5 : ¬ w1.heap.size = w5.heap.size := by omega
  have nUw5 : w2.heap.size < w5.heap.size := by omega
  have uUw5 : ¬ w2.heap.size = w5.heap.size := by omega
  have nCw5 : w3.heap.size < w5.heap.size := by omega
  have uCw5 : ¬ w3.heap.size = w5.heap.size := by omega
  have nDw5 : w4.heap.size < w5.heap.size := by omega
  have uDw5 : ¬ w4.heap.size = w5.heap.size := by omega
  go_wp2_with fail
  clear cA0 cA1 cA2 cA3 cA4 fA cU0 cU1 cU2 cU3 cU4 fU cC0 cC1 cC2 cC3 cC4 fC cD0 cD1 cD2 cD3 cD4 fD
  clear HA
  clear HU
  refine (same64_calls _ _ _ _ _ _).mono ?_
  rintro e w6 ⟨rfl, hk⟩
  replace HC : Aside0 (Blk w6 (w3.heap.size) 68 #[.float .f64 c1, .int .i64 c2, .int .i64 c3, .int .i64 c4, .int .i64 c5]) := ⟨Blk.step blk hk⟩
  replace HD : Aside0 (Blk w6 (w4.heap.size) 68 #[.float .f64 c1, .int .i64 c2, .int .i64 c3, .int .i64 c4, .int .i64 c5]) := ⟨Blk.step blk hk⟩
  replace HB := Aside0.mk (below_step bel hk)
  have hsw6 := hk.size
  try simp at hsw6
  clear hk
  obtain ⟨cC0, cC1, cC2, cC3, cC4, fC⟩ := HC.out.c5
  obtain ⟨cD0, cD1, cD2, cD3, cD4, fD⟩ := HD.out.c5
  have nCw6 : w3.heap.size < w6.heap.size := by omega
  have uCw6 : ¬ w3.heap.size = w6.heap.size := by omega
  have nDw6 : w4.heap.size < w6.heap.size := by omega
  have uDw6 : ¬ w4.heap.size = w6.heap.size := by omega
  go_wp2_with fail
  clear cC0 cC1 cC2 cC3 cC4 fC cD0 cD1 cD2 cD3 cD4 fD
  clear HC
  clear HD
  refine (RecF.awake_calls _).mono ?_
  rintro e w7 ⟨rfl, hk⟩
  replace HB := Aside0.mk (below_step bel hk)
  have hsw7 := hk.size
  try simp at hsw7
  clear hk
  go_wp2_with fail
  refine (CM.out _).mono ?_
  rintro e w8 ⟨rfl, hk⟩
  replace HB := Aside0.mk (below_step bel hk)
  have hsw8 := hk.size
  try simp at hsw8
  clear hk
  have HM := Aside0.mk (Blk.new w8 77 #[.float .f64 m1, .int .i64 m2, .int .i64 m3, .int .i64 m4, .int .i64 m5, .bool mb])
  go_wp2_with fail
  refine (CX.out _).mono ?_
  rintro e w9 ⟨rfl, hk⟩
  replace HM : Aside0 (Blk w9 (w8.heap.size) 77 #[.float .f64 m1, .int .i64 m2, .int .i64 m3, .int .i64 m4, .int .i64 m5, .bool mb]) := ⟨Blk.step blk hk⟩
  replace HB := Aside0.mk (below_step bel hk)
  have hsw9 := hk.size
  try simp at hsw9
  clear hk
  obtain ⟨cM0, cM1, cM2, cM3, cM4, cM5, fM⟩ := HM.out.c6
  have nMw9 : w8.heap.size < w9.heap.size := by omega
  have uMw9 : ¬ w8.heap.size = w9.heap.size := by omega
  have HX := Aside0.mk (Blk.new w9 73 #[.float .f64 x1, .int .i64 x2, .int .i64 x3, .int .i64 x4, .int .i64 x5, .int .i64 xf])
  go_wp2_with fail
  go_ret
  exact ⟨rfl, bel⟩


set_option maxRecDepth 100000 in
set_option maxHeartbeats 8000000 in
theorem walk_k_k (s : ByteArray) (dst e g k l : Int) (a1 c1 m1 x1 y1 z1 : Nat) (a2 a3 a4 a5 c2 c3 c4 c5 m2 m3 m4 m5 x2 x3 x4 x5 xf y2 y3 y4 y5 z2 z3 z4 z5 : Int) (mb : Bool) (w : World) (hs : s.size = 27)
    (CA : Aside0 (Gives 61 #[.string s] (.tuple #[.agg #[.float .f64 a1, .int .i64 a2, .int .i64 a3, .int .i64 a4, .int .i64 a5], .int .i64 e]))) (CB : Aside0 (Gives 77 #[.string s] (.tuple #[.agg #[.float .f64 a1, .int .i64 a2, .int .i64 a3, .int .i64 a4, .int .i64 a5], .int .i64 e])))
    (CC : Aside0 (Gives 78 #[.string s, .int .i64 dst] (.tuple #[.agg #[.float .f64 c1, .int .i64 c2, .int .i64 c3, .int .i64 c4, .int .i64 c5], .int .i64 g]))) (CD : Aside0 (Gives 79 #[.string s, .int .i64 dst] (.tuple #[.agg #[.float .f64 c1, .int .i64 c2, .int .i64 c3, .int .i64 c4, .int .i64 c5], .int .i64 g])))
    (CM : Aside0 (Gives 62 #[.string s] (.tuple #[.agg #[.float .f64 m1, .int .i64 m2, .int .i64 m3, .int .i64 m4, .int .i64 m5, .bool mb], .int .i64 6]))) (CX : Aside0 (Gives 63 #[.string s] (.tuple #[.agg #[.float .f64 x1, .int .i64 x2, .int .i64 x3, .int .i64 x4, .int .i64 x5, .int .i64 xf], .int .i64 6])))
    (CY : Aside0 (Gives 77 #[.string (s.extract 1 s.size)] (.tuple #[.agg #[.float .f64 y1, .int .i64 y2, .int .i64 y3, .int .i64 y4, .int .i64 y5], .int .i64 k]))) (CZ : Aside0 (Gives 77 #[.string (s.extract 0 26)] (.tuple #[.agg #[.float .f64 z1, .int .i64 z2, .int .i64 z3, .int .i64 z4, .int .i64 z5], .int .i64 l])))
    (hk : 1 ≤ k) (hl : 1 ≤ l) :
    Calls Try.prog 21 #[.string s, .int .i64 dst] w fun e w' => e = .returned (.bool true) ∧ Below w.heap.size w w' := by
  have HB := Aside0.mk (Below.refl w.heap.size w)
  have hu2 := Try.underlying42
  have hu3 := Try.underlying68
  have hu4 := Try.underlying73
  have hu5 := Try.underlying77
  have e1 : ∀ W : World, (Instr.slice 9 (.string s) (some (.int .i64 1)) none none).run Try.prog W = .ok (.string (s.extract 1 s.size)) W := fun W => Go.run_slice_string_l (P := Try.prog) W 9 s Try.underlying9 .i64 1 (by omega) (by omega)
  have e2 : ∀ W : World, (Instr.slice 9 (.string s) none (some (.int .i64 26)) none).run Try.prog W = .ok (.string (s.extract 0 26)) W := fun W => Go.run_slice_string_h (P := Try.prog) W 9 s Try.underlying9 .i64 26 (by omega) (by omega)
  have ei0 := run_bt s 0 (by decide) (by omega)
  have ei1 := run_bt s 26 (by decide) (by omega)
  have hb0 := bt_range s 0
  have hb1 := bt_range s 26
  generalize bt s 0 = B0 at *
  generalize bt s 26 = B1 at *
  have hw1 : IntKind.i64.wrap B1 = B1 := by rw [IntKind.wrap_i64]; omega
  clear hb0 hb1
  generalize s.extract 1 s.size = Y1 at *
  generalize s.extract 0 26 = Y2 at *
  go_enter Try.func21, Try.ntmps21
  go_wp2_with fail
  refine (CA.out _).mono ?_
  rintro e w1 ⟨rfl, hk⟩
  replace HB := Aside0.mk (below_step bel hk)
  have hsw1 := hk.size
  try simp at hsw1
  clear hk
  have HA := Aside0.mk (Blk.new w1 68 #[.float .f64 a1, .int .i64 a2, .int .i64 a3, .int .i64 a4, .int .i64 a5])
  go_wp2_with fail
  refine (CB.out _).mono ?_
  rintro e w2 ⟨rfl, hk⟩
  replace HA : Aside0 (Blk w2 (w1.heap.size) 68 #[.float .f64 a1, .int .i64 a2, .int .i64 a3, .int .i64 a4, .int .i64 a5]) := ⟨Blk.step blk hk⟩
  replace HB := Aside0.mk (below_step bel hk)
  have hsw2 := hk.size
  try simp at hsw2
  clear hk
  obtain ⟨cA0, cA1, cA2, cA3, cA4, fA⟩ := HA.out.c5
  have nAw2 : w1.heap.size < w2.heap.size := by omega
  have uAw2 : ¬ w1.heap.size = w2.heap.size := by omega
  have HU := Aside0.mk (Blk.new w2 68 #[.float .f64 a1, .int .i64 a2, .int .i64 a3, .int .i64 a4, .int .i64 a5])
  go_wp2_with fail
  clear cA0 cA1 cA2 cA3 cA4 fA
  refine (CC.out _).mono ?_
  rintro e w3 ⟨rfl, hk⟩
  replace HA : Aside0 (Blk w3 (w1.heap.size) 68 #[.float .f64 a1, .int .i64 a2, .int .i64 a3, .int .i64 a4, .int .i64 a5]) := ⟨Blk.step blk hk⟩
  replace HU : Aside0 (Blk w3 (w2.heap.size) 68 #[.float .f64 a1, .int .i64 a2, .int .i64 a3, .int .i64 a4, .int .i64 a5]) := ⟨Blk.step blk hk⟩
  replace HB := Aside0.mk (below_step bel hk)
  have hsw3 := hk.size
  try simp at hsw3
  clear hk
  obtain ⟨cA0, cA1, cA2, cA3, cA4, fA⟩ := HA.out.c5
  obtain ⟨cU0, cU1, cU2, cU3, cU4, fU⟩ := HU.out.c5
  have nAw3 : w1.heap.size < w3.heap.size := by omega
  have uAw3 : ¬ w1.heap.size = w3.heap.size := by omega
  have nUw3 : w2.heap.size < w3.heap.size := by omega
  have uUw3 : ¬ w2.heap.size = w3.heap.size := by omega
  have HC := Aside0.mk (Blk.new w3 68 #[.float .f64 c1, .int .i64 c2, .int .i64 c3, .int .i64 c4, .int .i64 c5])
  go_wp2_with fail
  clear cA0 cA1 cA2 cA3 cA4 fA cU0 cU1 cU2 cU3 cU4 fU
  refine (CD.out _).mono ?_
  rintro e w4 ⟨rfl, hk⟩
  replace HA : Aside0 (Blk w4 (w1.heap.size) 68 #[.float .f64 a1, .int .i64 a2, .int .i64 a3, .int .i64 a4, .int .i64 a5]) := ⟨Blk.step blk hk⟩
  replace HU : Aside0 (Blk w4 (w2.heap.size) 68 #[.float .f64 a1, .int .i64 a2, .int .i64 a3, .int .i64 a4, .int .i64 a5]) := ⟨Blk.step blk hk⟩
  replace HC : Aside0 (Blk w4 (w3.heap.size) 68 #[.float .f64 c1, .int .i64 c2, .int .i64 c3, .int .i64 c4, .int .i64 c5]) := ⟨Blk.step blk hk⟩
  replace HB := Aside0.mk (below_step bel hk)
  have hsw4 := hk.size
  try simp at hsw4
  clear hk
  obtain ⟨cA0, cA1, cA2, cA3, cA4, fA⟩ := HA.out.c5
  obtain ⟨cU0, cU1, cU2, cU3, cU4, fU⟩ := HU.out.c5
  obtain ⟨cC0, cC1, cC2, cC3, cC4, fC⟩ := HC.out.c5
  have nAw4 : w1.heap.size < w4.heap.size := by omega
  have uAw4 : ¬ w1.heap.size = w4.heap.size := by omega
  have nUw4 : w2.heap.size < w4.heap.size := by omega
  have uUw4 : ¬ w2.heap.size = w4.heap.size := by omega
  have nCw4 : w3.heap.size < w4.heap.size := by omega
  have uCw4 : ¬ w3.heap.size = w4.heap.size := by omega
  have HD := Aside0.mk (Blk.new w4 68 #[.float .f64 c1, .int .i64 c2, .int .i64 c3, .int .i64 c4, .int .i64 c5])
  go_wp2_with fail
  clear cA0 cA1 cA2 cA3 cA4 fA cU0 cU1 cU2 cU3 cU4 fU cC0 cC1 cC2 cC3 cC4 fC
  refine (same64_calls _ _ _ _ _ _).mono ?_
  rintro e w5 ⟨rfl, hk⟩
  replace HA : Aside0 (Blk w5 (w1.heap.size) 68 #[.float .f64 a1, .int .i64 a2, .int .i64 a3, .int .i64 a4, .int .i64 a5]) := ⟨Blk.step blk hk⟩
  replace HU : Aside0 (Blk w5 (w2.heap.size) 68 #[.float .f64 a1, .int .i64 a2, .int .i64 a3, .int .i64 a4, .int .i64 a5]) := ⟨Blk.step blk hk⟩
  replace HC : Aside0 (Blk w5 (w3.heap.size) 68 #[.float .f64 c1, .int .i64 c2, .int .i64 c3, .int .i64 c4, .int .i64 c5]) := ⟨Blk.step blk hk⟩
  replace HD : Aside0 (Blk w5 (w4.heap.size) 68 #[.float .f64 c1, .int .i64 c2, .int .i64 c3, .int .i64 c4, .int .i64 c5]) := ⟨Blk.step blk hk⟩
  replace HB := Aside0.mk (below_step bel hk)
  have hsw5 := hk.size
  try simp at hsw5
  clear hk
  obtain ⟨cA0, cA1, cA2, cA3, cA4, fA⟩ := HA.out.c5
  obtain ⟨cU0, cU1, cU2, cU3, cU4, fU⟩ := HU.out.c5
  obtain ⟨cC0, cC1, cC2, cC3, cC4, fC⟩ := HC.out.c5
  obtain ⟨cD0, cD1, cD2, cD3, cD4, fD⟩ := HD.out.c5
  have nAw5 : w1.heap.size < w5.heap.size := by omega
  have uAw5 : ¬ w1.heap.size = w5.heap.size := by omega
  have nUw5 : w2.heap.size < w5.heap.size := by omega
  have uUw5 : ¬ w2.heap.size = w5.heap.size := by omega
  have nCw5 : w3.heap.size < w5.heap.size := by omega
  have uCw5 : ¬ w3.heap.size = w5.heap.size := by omega
  have nDw5 : w4.heap.size < w5.heap.size := by omega
  have uDw5 : ¬ w4.heap.size = w5.heap.size := by omega
  go_wp2_with fail
  clear cA0 cA1 cA2 cA3 cA4 fA cU0 cU1 cU2 cU3 cU4 fU cC0 cC1 cC2 cC3 cC4 fC cD0 cD1 cD2 cD3 cD4 fD
  clear HA
  clear HU
  refine (same64_calls _ _ _ _ _ _).mono ?_
  rintro e w6 ⟨rfl, hk⟩
  replace HC : Aside0 (Blk w6 (w3.heap.size) 68 #[.float .f64 c1, .int .i64 c2, .int .i64 c3, .int .i64 c4, .int .i64 c5]) := ⟨Blk.step blk hk⟩
  replace HD : Aside0 (Blk w6 (w4.heap.size) 68 #[.float .f64 c1, .int .i64 c2, .int .i64 c3, .int .i64 c4, .int .i64 c5]) := ⟨Blk.step blk hk⟩
  replace HB := Aside0.mk (below_step bel hk)
  have hsw6 := hk.size
  try simp at hsw6
  clear hk
  obtain ⟨cC0, cC1, cC2, cC3, cC4, fC⟩ := HC.out.c5
  obtain ⟨cD0, cD1, cD2, cD3, cD4, fD⟩ := HD.out.c5
  have nCw6 : w3.heap.size < w6.heap.size := by omega
  have uCw6 : ¬ w3.heap.size = w6.heap.size := by omega
  have nDw6 : w4.heap.size < w6.heap.size := by omega
  have uDw6 : ¬ w4.heap.size = w6.heap.size := by omega
  go_wp2_with fail
  clear cC0 cC1 cC2 cC3 cC4 fC cD0 cD1 cD2 cD3 cD4 fD
  clear HC
  clear HD
  refine (RecF.awake_calls _).mono ?_
  rintro e w7 ⟨rfl, hk⟩
  replace HB := Aside0.mk (below_step bel hk)
  have hsw7 := hk.size
  try simp at hsw7
  clear hk
  go_wp2_with fail
  refine (CM.out _).mono ?_
  rintro e w8 ⟨rfl, hk⟩
  replace HB := Aside0.mk (below_step bel hk)
  have hsw8 := hk.size
  try simp at hsw8
  clear hk
  have HM := Aside0.mk (Blk.new w8 77 #[.float .f64 m1, .int .i64 m2, .int .i64 m3, .int .i64 m4, .int .i64 m5, .bool mb])
  go_wp2_with fail
  refine (CX.out _).mono ?_
  rintro e w9 ⟨rfl, hk⟩
  replace HM : Aside0 (Blk w9 (w8.heap.size) 77 #[.float .f64 m1, .int .i64 m2, .int .i64 m3, .int .i64 m4, .int .i64 m5, .bool mb]) := ⟨Blk.step blk hk⟩
  replace HB := Aside0.mk (below_step bel hk)
  have hsw9 := hk.size
  try simp at hsw9
  clear hk
  obtain ⟨cM0, cM1, cM2, cM3, cM4, cM5, fM⟩ := HM.out.c6
  have nMw9 : w8.heap.size < w9.heap.size := by omega
  have uMw9 : ¬ w8.heap.size = w9.heap.size := by omega
  have HX := Aside0.mk (Blk.new w9 73 #[.float .f64 x1, .int .i64 x2, .int .i64 x3, .int .i64 x4, .int .i64 x5, .int .i64 xf])
  go_wp2_with fail
  clear cM0 cM1 cM2 cM3 cM4 cM5 fM
  refine (CY.out _).mono ?_
  rintro e w10 ⟨rfl, hk⟩
  replace HM : Aside0 (Blk w10 (w8.heap.size) 77 #[.float .f64 m1, .int .i64 m2, .int .i64 m3, .int .i64 m4, .int .i64 m5, .bool mb]) := ⟨Blk.step blk hk⟩
  replace HX : Aside0 (Blk w10 (w9.heap.size) 73 #[.float .f64 x1, .int .i64 x2, .int .i64 x3, .int .i64 x4, .int .i64 x5, .int .i64 xf]) := ⟨Blk.step blk hk⟩
  replace HB := Aside0.mk (below_step bel hk)
  have hsw10 := hk.size
  try simp at hsw10
  clear hk
  obtain ⟨cM0, cM1, cM2, cM3, cM4, cM5, fM⟩ := HM.out.c6
  obtain ⟨cX0, cX1, cX2, cX3, cX4, cX5, fX⟩ := HX.out.c6
  have nMw10 : w8.heap.size < w10.heap.size := by omega
  have uMw10 : ¬ w8.heap.size = w10.heap.size := by omega
  have nXw10 : w9.heap.size < w10.heap.size := by omega
  have uXw10 : ¬ w9.heap.size = w10.heap.size := by omega
  have HY := Aside0.mk (Blk.new w10 68 #[.float .f64 y1, .int .i64 y2, .int .i64 y3, .int .i64 y4, .int .i64 y5])
  go_wp2_with fail
  clear cM0 cM1 cM2 cM3 cM4 cM5 fM cX0 cX1 cX2 cX3 cX4 cX5 fX
  refine (CZ.out _).mono ?_
  rintro e w11 ⟨rfl, hk⟩
  replace HM : Aside0 (Blk w11 (w8.heap.size) 77 #[.float .f64 m1, .int .i64 m2, .int .i64 m3, .int .i64 m4, .int .i64 m5, .bool mb]) := ⟨Blk.step blk hk⟩
  replace HX : Aside0 (Blk w11 (w9.heap.size) 73 #[.float .f64 x1, .int .i64 x2, .int .i64 x3, .int .i64 x4, .int .i64 x5, .int .i64 xf]) := ⟨Blk.step blk hk⟩
  replace HY : Aside0 (Blk w11 (w10.heap.size) 68 #[.float .f64 y1, .int .i64 y2, .int .i64 y3, .int .i64 y4, .int .i64 y5]) := ⟨Blk.step blk hk⟩
  replace HB := Aside0.mk (below_step bel hk)
  have hsw11 := hk.size
  try simp at hsw11
  clear hk
  obtain ⟨cM0, cM1, cM2, cM3, cM4, cM5, fM⟩ := HM.out.c6
  obtain ⟨cX0, cX1, cX2, cX3, cX4, cX5, fX⟩ := HX.out.c6
  obtain ⟨cY0, cY1, cY2, cY3, cY4, fY⟩ := HY.out.c5
  have nMw11 : w8.heap.size < w11.heap.size := by omega
  have uMw11 : ¬ w8.heap.size = w11.heap.size := by omega
  have nXw11 : w9.heap.size < w11.heap.size := by omega
  have uXw11 : ¬ w9.heap.size = w11.heap.size := by omega
  have nYw11 : w10.heap.size < w11.heap.size := by omega
  have uYw11 : ¬ w10.heap.size = w11.heap.size := by omega
  have HZ := Aside0.mk (Blk.new w11 68 #[.float .f64 z1, .int .i64 z2, .int .i64 z3, .int .i64 z4, .int .i64 z5])
  go_wp2_with fail
  go_ret
  exact ⟨rfl, bel⟩


set_option maxRecDepth 100000 in
set_option maxHeartbeats 8000000 in
theorem walk_k_g (s : ByteArray) (dst e g k l : Int) (a1 c1 m1 x1 y1 z1 : Nat) (a2 a3 a4 a5 c2 c3 c4 c5 m2 m3 m4 m5 x2 x3 x4 x5 xf y2 y3 y4 y5 z2 z3 z4 z5 : Int) (mb : Bool) (w : World) (hs : s.size = 27)
    (CA : Aside0 (Gives 61 #[.string s] (.tuple #[.agg #[.float .f64 a1, .int .i64 a2, .int .i64 a3, .int .i64 a4, .int .i64 a5], .int .i64 e]))) (CB : Aside0 (Gives 77 #[.string s] (.tuple #[.agg #[.float .f64 a1, .int .i64 a2, .int .i64 a3, .int .i64 a4, .int .i64 a5], .int .i64 e])))
    (CC : Aside0 (Gives 78 #[.string s, .int .i64 dst] (.tuple #[.agg #[.float .f64 c1, .int .i64 c2, .int .i64 c3, .int .i64 c4, .int .i64 c5], .int .i64 g]))) (CD : Aside0 (Gives 79 #[.string s, .int .i64 dst] (.tuple #[.agg #[.float .f64 c1, .int .i64 c2, .int .i64 c3, .int .i64 c4, .int .i64 c5], .int .i64 g])))
    (CM : Aside0 (Gives 62 #[.string s] (.tuple #[.agg #[.float .f64 m1, .int .i64 m2, .int .i64 m3, .int .i64 m4, .int .i64 m5, .bool mb], .int .i64 6]))) (CX : Aside0 (Gives 63 #[.string s] (.tuple #[.agg #[.float .f64 x1, .int .i64 x2, .int .i64 x3, .int .i64 x4, .int .i64 x5, .int .i64 xf], .int .i64 6])))
    (CY : Aside0 (Gives 77 #[.string (s.extract 1 s.size)] (.tuple #[.agg #[.float .f64 y1, .int .i64 y2, .int .i64 y3, .int .i64 y4, .int .i64 y5], .int .i64 k]))) (CZ : Aside0 (Gives 77 #[.string (s.extract 0 26)] (.tuple #[.agg #[.float .f64 z1, .int .i64 z2, .int .i64 z3, .int .i64 z4, .int .i64 z5], .int .i64 0])))
    (hk : 1 ≤ k) (h26 : decide (7 < bt s 26) = true) :
    Calls Try.prog 21 #[.string s, .int .i64 dst] w fun e w' => e = .returned (.bool true) ∧ Below w.heap.size w w' := by
  have HB := Aside0.mk (Below.refl w.heap.size w)
  have hu2 := Try.underlying42
  have hu3 := Try.underlying68
  have hu4 := Try.underlying73
  have hu5 := Try.underlying77
  have e1 : ∀ W : World, (Instr.slice 9 (.string s) (some (.int .i64 1)) none none).run Try.prog W = .ok (.string (s.extract 1 s.size)) W := fun W => Go.run_slice_string_l (P := Try.prog) W 9 s Try.underlying9 .i64 1 (by omega) (by omega)
  have e2 : ∀ W : World, (Instr.slice 9 (.string s) none (some (.int .i64 26)) none).run Try.prog W = .ok (.string (s.extract 0 26)) W := fun W => Go.run_slice_string_h (P := Try.prog) W 9 s Try.underlying9 .i64 26 (by omega) (by omega)
  have ei0 := run_bt s 0 (by decide) (by omega)
  have ei1 := run_bt s 26 (by decide) (by omega)
  have hb0 := bt_range s 0
  have hb1 := bt_range s 26
  generalize bt s 0 = B0 at *
  generalize bt s 26 = B1 at *
  have hw1 : IntKind.i64.wrap B1 = B1 := by rw [IntKind.wrap_i64]; omega
  clear hb0 hb1
  generalize s.extract 1 s.size = Y1 at *
  generalize s.extract 0 26 = Y2 at *
  go_enter Try.func21, Try.ntmps21
  go_wp2_with fail
  refine (CA.out _).mono ?_
  rintro e w1 ⟨rfl, hk⟩
  replace HB := Aside0.mk (below_step bel hk)
  have hsw1 := hk.size
  try simp at hsw1
  clear hk
  have HA := Aside0.mk (Blk.new w1 68 #[.float .f64 a1, .int .i64 a2, .int .i64 a3, .int .i64 a4, .int .i64 a5])
  go_wp2_with fail
  refine (CB.out _).mono ?_
  rintro e w2 ⟨rfl, hk⟩
  replace HA : Aside0 (Blk w2 (w1.heap.size) 68 #[.float .f64 a1, .int .i64 a2, .int .i64 a3, .int .i64 a4, .int .i64 a5]) := ⟨Blk.step blk hk⟩
  replace HB := Aside0.mk (below_step bel hk)
  have hsw2 := hk.size
  try simp at hsw2
  clear hk
  obtain ⟨cA0, cA1, cA2, cA3, cA4, fA⟩ := HA.out.c5
  have nAw2 : w1.heap.size < w2.heap.size := by omega
  have uAw2 : ¬ w1.heap.size = w2.heap.size := by omega
  have HU := Aside0.mk (Blk.new w2 68 #[.float .f64 a1, .int .i64 a2, .int .i64 a3, .int .i64 a4, .int .i64 a5])
  go_wp2_with fail
  clear cA0 cA1 cA2 cA3 cA4 fA
  refine (CC.out _).mono ?_
  rintro e w3 ⟨rfl, hk⟩
  replace HA : Aside0 (Blk w3 (w1.heap.size) 68 #[.float .f64 a1, .int .i64 a2, .int .i64 a3, .int .i64 a4, .int .i64 a5]) := ⟨Blk.step blk hk⟩
  replace HU : Aside0 (Blk w3 (w2.heap.size) 68 #[.float .f64 a1, .int .i64 a2, .int .i64 a3, .int .i64 a4, .int .i64 a5]) := ⟨Blk.step blk hk⟩
  replace HB := Aside0.mk (below_step bel hk)
  have hsw3 := hk.size
  try simp at hsw3
  clear hk
  obtain ⟨cA0, cA1, cA2, cA3, cA4, fA⟩ := HA.out.c5
  obtain ⟨cU0, cU1, cU2, cU3, cU4, fU⟩ := HU.out.c5
  have nAw3 : w1.heap.size < w3.heap.size := by omega
  have uAw3 : ¬ w1.heap.size = w3.heap.size := by omega
  have nUw3 : w2.heap.size < w3.heap.size := by omega
  have uUw3 : ¬ w2.heap.size = w3.heap.size := by omega
  have HC := Aside0.mk (Blk.new w3 68 #[.float .f64 c1, .int .i64 c2, .int .i64 c3, .int .i64 c4, .int .i64 c5])
  go_wp2_with fail
  clear cA0 cA1 cA2 cA3 cA4 fA cU0 cU1 cU2 cU3 cU4 fU
  refine (CD.out _).mono ?_
  rintro e w4 ⟨rfl, hk⟩
  replace HA : Aside0 (Blk w4 (w1.heap.size) 68 #[.float .f64 a1, .int .i64 a2, .int .i64 a3, .int .i64 a4, .int .i64 a5]) := ⟨Blk.step blk hk⟩
  replace HU : Aside0 (Blk w4 (w2.heap.size) 68 #[.float .f64 a1, .int .i64 a2, .int .i64 a3, .int .i64 a4, .int .i64 a5]) := ⟨Blk.step blk hk⟩
  replace HC : Aside0 (Blk w4 (w3.heap.size) 68 #[.float .f64 c1, .int .i64 c2, .int .i64 c3, .int .i64 c4, .int .i64 c5]) := ⟨Blk.step blk hk⟩
  replace HB := Aside0.mk (below_step bel hk)
  have hsw4 := hk.size
  try simp at hsw4
  clear hk
  obtain ⟨cA0, cA1, cA2, cA3, cA4, fA⟩ := HA.out.c5
  obtain ⟨cU0, cU1, cU2, cU3, cU4, fU⟩ := HU.out.c5
  obtain ⟨cC0, cC1, cC2, cC3, cC4, fC⟩ := HC.out.c5
  have nAw4 : w1.heap.size < w4.heap.size := by omega
  have uAw4 : ¬ w1.heap.size = w4.heap.size := by omega
  have nUw4 : w2.heap.size < w4.heap.size := by omega
  have uUw4 : ¬ w2.heap.size = w4.heap.size := by omega
  have nCw4 : w3.heap.size < w4.heap.size := by omega
  have uCw4 : ¬ w3.heap.size = w4.heap.size := by omega
  have HD := Aside0.mk (Blk.new w4 68 #[.float .f64 c1, .int .i64 c2, .int .i64 c3, .int .i64 c4, .int .i64 c5])
  go_wp2_with fail
  clear cA0 cA1 cA2 cA3 cA4 fA cU0 cU1 cU2 cU3 cU4 fU cC0 cC1 cC2 cC3 cC4 fC
  refine (same64_calls _ _ _ _ _ _).mono ?_
  rintro e w5 ⟨rfl, hk⟩
  replace HA : Aside0 (Blk w5 (w1.heap.size) 68 #[.float .f64 a1, .int .i64 a2, .int .i64 a3, .int .i64 a4, .int .i64 a5]) := ⟨Blk.step blk hk⟩
  replace HU : Aside0 (Blk w5 (w2.heap.size) 68 #[.float .f64 a1, .int .i64 a2, .int .i64 a3, .int .i64 a4, .int .i64 a5]) := ⟨Blk.step blk hk⟩
  replace HC : Aside0 (Blk w5 (w3.heap.size) 68 #[.float .f64 c1, .int .i64 c2, .int .i64 c3, .int .i64 c4, .int .i64 c5]) := ⟨Blk.step blk hk⟩
  replace HD : Aside0 (Blk w5 (w4.heap.size) 68 #[.float .f64 c1, .int .i64 c2, .int .i64 c3, .int .i64 c4, .int .i64 c5]) := ⟨Blk.step blk hk⟩
  replace HB := Aside0.mk (below_step bel hk)
  have hsw5 := hk.size
  try simp at hsw5
  clear hk
  obtain ⟨cA0, cA1, cA2, cA3, cA4, fA⟩ := HA.out.c5
  obtain ⟨cU0, cU1, cU2, cU3, cU4, fU⟩ := HU.out.c5
  obtain ⟨cC0, cC1, cC2, cC3, cC4, fC⟩ := HC.out.c5
  obtain ⟨cD0, cD1, cD2, cD3, cD4, fD⟩ := HD.out.c5
  have nAw5 : w1.heap.size < w5.heap.size := by omega
  have uAw5 : ¬ w1.heap.size = w5.heap.size := by omega
  have nUw5 : w2.heap.size < w5.heap.size := by omega
  have uUw5 : ¬ w2.heap.size = w5.heap.size := by omega
  have nCw5 : w3.heap.size < w5.heap.size := by omega
  have uCw5 : ¬ w3.heap.size = w5.heap.size := by omega
  have nDw5 : w4.heap.size < w5.heap.size := by omega
  have uDw5 : ¬ w4.heap.size = w5.heap.size := by omega
  go_wp2_with fail
  clear cA0 cA1 cA2 cA3 cA4 fA cU0 cU1 cU2 cU3 cU4 fU cC0 cC1 cC2 cC3 cC4 fC cD0 cD1 cD2 cD3 cD4 fD
  clear HA
  clear HU
  refine (same64_calls _ _ _ _ _ _).mono ?_
  rintro e w6 ⟨rfl, hk⟩
  replace HC : Aside0 (Blk w6 (w3.heap.size) 68 #[.float .f64 c1, .int .i64 c2, .int .i64 c3, .int .i64 c4, .int .i64 c5]) := ⟨Blk.step blk hk⟩
  replace HD : Aside0 (Blk w6 (w4.heap.size) 68 #[.float .f64 c1, .int .i64 c2, .int .i64 c3, .int .i64 c4, .int .i64 c5]) := ⟨Blk.step blk hk⟩
  replace HB := Aside0.mk (below_step bel hk)
  have hsw6 := hk.size
  try simp at hsw6
  clear hk
  obtain ⟨cC0, cC1, cC2, cC3, cC4, fC⟩ := HC.out.c5
  obtain ⟨cD0, cD1, cD2, cD3, cD4, fD⟩ := HD.out.c5
  have nCw6 : w3.heap.size < w6.heap.size := by omega
  have uCw6 : ¬ w3.heap.size = w6.heap.size := by omega
  have nDw6 : w4.heap.size < w6.heap.size := by omega
  have uDw6 : ¬ w4.heap.size = w6.heap.size := by omega
  go_wp2_with fail
  clear cC0 cC1 cC2 cC3 cC4 fC cD0 cD1 cD2 cD3 cD4 fD
  clear HC
  clear HD
  refine (RecF.awake_calls _).mono ?_
  rintro e w7 ⟨rfl, hk⟩
  replace HB := Aside0.mk (below_step bel hk)
  have hsw7 := hk.size
  try simp at hsw7
  clear hk
  go_wp2_with fail
  refine (CM.out _).mono ?_
  rintro e w8 ⟨rfl, hk⟩
  replace HB := Aside0.mk (below_step bel hk)
  have hsw8 := hk.size
  try simp at hsw8
  clear hk
  have HM := Aside0.mk (Blk.new w8 77 #[.float .f64 m1, .int .i64 m2, .int .i64 m3, .int .i64 m4, .int .i64 m5, .bool mb])
  go_wp2_with fail
  refine (CX.out _).mono ?_
  rintro e w9 ⟨rfl, hk⟩
  replace HM : Aside0 (Blk w9 (w8.heap.size) 77 #[.float .f64 m1, .int .i64 m2, .int .i64 m3, .int .i64 m4, .int .i64 m5, .bool mb]) := ⟨Blk.step blk hk⟩
  replace HB := Aside0.mk (below_step bel hk)
  have hsw9 := hk.size
  try simp at hsw9
  clear hk
  obtain ⟨cM0, cM1, cM2, cM3, cM4, cM5, fM⟩ := HM.out.c6
  have nMw9 : w8.heap.size < w9.heap.size := by omega
  have uMw9 : ¬ w8.heap.size = w9.heap.size := by omega
  have HX := Aside0.mk (Blk.new w9 73 #[.float .f64 x1, .int .i64 x2, .int .i64 x3, .int .i64 x4, .int .i64 x5, .int .i64 xf])
  go_wp2_with fail
  clear cM0 cM1 cM2 cM3 cM4 cM5 fM
  refine (CY.out _).mono ?_
  rintro e w10 ⟨rfl, hk⟩
  replace HM : Aside0 (Blk w10 (w8.heap.size) 77 #[.float .f64 m1, .int .i64 m2, .int .i64 m3, .int .i64 m4, .int .i64 m5, .bool mb]) := ⟨Blk.step blk hk⟩
  replace HX : Aside0 (Blk w10 (w9.heap.size) 73 #[.float .f64 x1, .int .i64 x2, .int .i64 x3, .int .i64 x4, .int .i64 x5, .int .i64 xf]) := ⟨Blk.step blk hk⟩
  replace HB := Aside0.mk (below_step bel hk)
  have hsw10 := hk.size
  try simp at hsw10
  clear hk
  obtain ⟨cM0, cM1, cM2, cM3, cM4, cM5, fM⟩ := HM.out.c6
  obtain ⟨cX0, cX1, cX2, cX3, cX4, cX5, fX⟩ := HX.out.c6
  have nMw10 : w8.heap.size < w10.heap.size := by omega
  have uMw10 : ¬ w8.heap.size = w10.heap.size := by omega
  have nXw10 : w9.heap.size < w10.heap.size := by omega
  have uXw10 : ¬ w9.heap.size = w10.heap.size := by omega
  have HY := Aside0.mk (Blk.new w10 68 #[.float .f64 y1, .int .i64 y2, .int .i64 y3, .int .i64 y4, .int .i64 y5])
  go_wp2_with fail
  clear cM0 cM1 cM2 cM3 cM4 cM5 fM cX0 cX1 cX2 cX3 cX4 cX5 fX
  refine (CZ.out _).mono ?_
  rintro e w11 ⟨rfl, hk⟩
  replace HM : Aside0 (Blk w11 (w8.heap.size) 77 #[.float .f64 m1, .int .i64 m2, .int .i64 m3, .int .i64 m4, .int .i64 m5, .bool mb]) := ⟨Blk.step blk hk⟩
  replace HX : Aside0 (Blk w11 (w9.heap.size) 73 #[.float .f64 x1, .int .i64 x2, .int .i64 x3, .int .i64 x4, .int .i64 x5, .int .i64 xf]) := ⟨Blk.step blk hk⟩
  replace HY : Aside0 (Blk w11 (w10.heap.size) 68 #[.float .f64 y1, .int .i64 y2, .int .i64 y3, .int .i64 y4, .int .i64 y5]) := ⟨Blk.step blk hk⟩
  replace HB := Aside0.mk (below_step bel hk)
  have hsw11 := hk.size
  try simp at hsw11
  clear hk
  obtain ⟨cM0, cM1, cM2, cM3, cM4, cM5, fM⟩ := HM.out.c6
  obtain ⟨cX0, cX1, cX2, cX3, cX4, cX5, fX⟩ := HX.out.c6
  obtain ⟨cY0, cY1, cY2, cY3, cY4, fY⟩ := HY.out.c5
  have nMw11 : w8.heap.size < w11.heap.size := by omega
  have uMw11 : ¬ w8.heap.size = w11.heap.size := by omega
  have nXw11 : w9.heap.size < w11.heap.size := by omega
  have uXw11 : ¬ w9.heap.size = w11.heap.size := by omega
  have nYw11 : w10.heap.size < w11.heap.size := by omega
  have uYw11 : ¬ w10.heap.size = w11.heap.size := by omega
  have HZ := Aside0.mk (Blk.new w11 68 #[.float .f64 z1, .int .i64 z2, .int .i64 z3, .int .i64 z4, .int .i64 z5])
  go_wp2_with fail
  go_ret
  exact ⟨rfl, bel⟩


set_option maxRecDepth 100000 in
set_option maxHeartbeats 8000000 in
theorem walk_k_ok (s : ByteArray) (dst e g k l : Int) (a1 c1 m1 x1 y1 z1 : Nat) (a2 a3 a4 a5 c2 c3 c4 c5 m2 m3 m4 m5 x2 x3 x4 x5 xf y2 y3 y4 y5 z2 z3 z4 z5 : Int) (mb : Bool) (w : World) (hs : s.size = 27)
    (CA : Aside0 (Gives 61 #[.string s] (.tuple #[.agg #[.float .f64 a1, .int .i64 a2, .int .i64 a3, .int .i64 a4, .int .i64 a5], .int .i64 e]))) (CB : Aside0 (Gives 77 #[.string s] (.tuple #[.agg #[.float .f64 a1, .int .i64 a2, .int .i64 a3, .int .i64 a4, .int .i64 a5], .int .i64 e])))
    (CC : Aside0 (Gives 78 #[.string s, .int .i64 dst] (.tuple #[.agg #[.float .f64 c1, .int .i64 c2, .int .i64 c3, .int .i64 c4, .int .i64 c5], .int .i64 g]))) (CD : Aside0 (Gives 79 #[.string s, .int .i64 dst] (.tuple #[.agg #[.float .f64 c1, .int .i64 c2, .int .i64 c3, .int .i64 c4, .int .i64 c5], .int .i64 g])))
    (CM : Aside0 (Gives 62 #[.string s] (.tuple #[.agg #[.float .f64 m1, .int .i64 m2, .int .i64 m3, .int .i64 m4, .int .i64 m5, .bool mb], .int .i64 6]))) (CX : Aside0 (Gives 63 #[.string s] (.tuple #[.agg #[.float .f64 z1, .int .i64 z2, .int .i64 z3, .int .i64 z4, .int .i64 z5, .int .i64 (bt s 26)], .int .i64 0])))
    (CY : Aside0 (Gives 77 #[.string (s.extract 1 s.size)] (.tuple #[.agg #[.float .f64 y1, .int .i64 y2, .int .i64 y3, .int .i64 y4, .int .i64 y5], .int .i64 k]))) (CZ : Aside0 (Gives 77 #[.string (s.extract 0 26)] (.tuple #[.agg #[.float .f64 z1, .int .i64 z2, .int .i64 z3, .int .i64 z4, .int .i64 z5], .int .i64 0])))
    (hk : 1 ≤ k) (h26 : decide (7 < bt s 26) = false) :
    Calls Try.prog 21 #[.string s, .int .i64 dst] w fun e w' => e = .returned (.bool true) ∧ Below w.heap.size w w' := by
  have HB := Aside0.mk (Below.refl w.heap.size w)
  have hu2 := Try.underlying42
  have hu3 := Try.underlying68
  have hu4 := Try.underlying73
  have hu5 := Try.underlying77
  have e1 : ∀ W : World, (Instr.slice 9 (.string s) (some (.int .i64 1)) none none).run Try.prog W = .ok (.string (s.extract 1 s.size)) W := fun W => Go.run_slice_string_l (P := Try.prog) W 9 s Try.underlying9 .i64 1 (by omega) (by omega)
  have e2 : ∀ W : World, (Instr.slice 9 (.string s) none (some (.int .i64 26)) none).run Try.prog W = .ok (.string (s.extract 0 26)) W := fun W => Go.run_slice_string_h (P := Try.prog) W 9 s Try.underlying9 .i64 26 (by omega) (by omega)
  have ei0 := run_bt s 0 (by decide) (by omega)
  have ei1 := run_bt s 26 (by decide) (by omega)
  have hb0 := bt_range s 0
  have hb1 := bt_range s 26
  generalize bt s 0 = B0 at *
  generalize bt s 26 = B1 at *
  have hw1 : IntKind.i64.wrap B1 = B1 := by rw [IntKind.wrap_i64]; omega
  clear hb0 hb1
  generalize s.extract 1 s.size = Y1 at *
  generalize s.extract 0 26 = Y2 at *
  go_enter Try.func21, Try.ntmps21
  go_wp2_with fail
  refine (CA.out _).mono ?_
  rintro e w1 ⟨rfl, hk⟩
  replace HB := Aside0.mk (below_step bel hk)
  have hsw1 := hk.size
  try simp at hsw1
  clear hk
  have HA := Aside0.mk (Blk.new w1 68 #[.float .f64 a1, .int .i64 a2, .int .i64 a3, .int .i64 a4, .int .i64 a5])
  go_wp2_with fail
  refine (CB.out _).mono ?_
  rintro e w2 ⟨rfl, hk⟩
  replace HA : Aside0 (Blk w2 (w1.heap.size) 68 #[.float .f64 a1, .int .i64 a2, .int .i64 a3, .int .i64 a4, .int .i64 a5]) := ⟨Blk.step blk hk⟩
  replace HB := Aside0.mk (below_step bel hk)
  have hsw2 := hk.size
  try simp at hsw2
  clear hk
  obtain ⟨cA0, cA1, cA2, cA3, cA4, fA⟩ := HA.out.c5
  have nAw2 : w1.heap.size < w2.heap.size := by omega
  have uAw2 : ¬ w1.heap.size = w2.heap.size := by omega
  have HU := Aside0.mk (Blk.new w2 68 #[.float .f64 a1, .int .i64 a2, .int .i64 a3, .int .i64 a4, .int .i64 a5])
  go_wp2_with fail
  clear cA0 cA1 cA2 cA3 cA4 fA
  refine (CC.out _).mono ?_
  rintro e w3 ⟨rfl, hk⟩
  replace HA : Aside0 (Blk w3 (w1.heap.size) 68 #[.float .f64 a1, .int .i64 a2, .int .i64 a3, .int .i64 a4, .int .i64 a5]) := ⟨Blk.step blk hk⟩
  replace HU : Aside0 (Blk w3 (w2.heap.size) 68 #[.float .f64 a1, .int .i64 a2, .int .i64 a3, .int .i64 a4, .int .i64 a5]) := ⟨Blk.step blk hk⟩
  replace HB := Aside0.mk (below_step bel hk)
  have hsw3 := hk.size
  try simp at hsw3
  clear hk
  obtain ⟨cA0, cA1, cA2, cA3, cA4, fA⟩ := HA.out.c5
  obtain ⟨cU0, cU1, cU2, cU3, cU4, fU⟩ := HU.out.c5
  have nAw3 : w1.heap.size < w3.heap.size := by omega
  have uAw3 : ¬ w1.heap.size = w3.heap.size := by omega
  have nUw3 : w2.heap.size < w3.heap.size := by omega
  have uUw3 : ¬ w2.heap.size = w3.heap.size := by omega
  have HC := Aside0.mk (Blk.new w3 68 #[.float .f64 c1, .int .i64 c2, .int .i64 c3, .int .i64 c4, .int .i64 c5])
  go_wp2_with fail
  clear cA0 cA1 cA2 cA3 cA4 fA cU0 cU1 cU2 cU3 cU4 fU
  refine (CD.out _).mono ?_
  rintro e w4 ⟨rfl, hk⟩
  replace HA : Aside0 (Blk w4 (w1.heap.size) 68 #[.float .f64 a1, .int .i64 a2, .int .i64 a3, .int .i64 a4, .int .i64 a5]) := ⟨Blk.step blk hk⟩
  replace HU : Aside0 (Blk w4 (w2.heap.size) 68 #[.float .f64 a1, .int .i64 a2, .int .i64 a3, .int .i64 a4, .int .i64 a5]) := ⟨Blk.step blk hk⟩
  replace HC : Aside0 (Blk w4 (w3.heap.size) 68 #[.float .f64 c1, .int .i64 c2, .int .i64 c3, .int .i64 c4, .int .i64 c5]) := ⟨Blk.step blk hk⟩
  replace HB := Aside0.mk (below_step bel hk)
  have hsw4 := hk.size
  try simp at hsw4
  clear hk
  obtain ⟨cA0, cA1, cA2, cA3, cA4, fA⟩ := HA.out.c5
  obtain ⟨cU0, cU1, cU2, cU3, cU4, fU⟩ := HU.out.c5
  obtain ⟨cC0, cC1, cC2, cC3, cC4, fC⟩ := HC.out.c5
  have nAw4 : w1.heap.size < w4.heap.size := by omega
  have uAw4 : ¬ w1.heap.size = w4.heap.size := by omega
  have nUw4 : w2.heap.size < w4.heap.size := by omega
  have uUw4 : ¬ w2.heap.size = w4.heap.size := by omega
  have nCw4 : w3.heap.size < w4.heap.size := by omega
  have uCw4 : ¬ w3.heap.size = w4.heap.size := by omega
  have HD := Aside0.mk (Blk.new w4 68 #[.float .f64 c1, .int .i64 c2, .int .i64 c3, .int .i64 c4, .int .i64 c5])
  go_wp2_with fail
  clear cA0 cA1 cA2 cA3 cA4 fA cU0 cU1 cU2 cU3 cU4 fU cC0 cC1 cC2 cC3 cC4 fC
  refine (same64_calls _ _ _ _ _ _).mono ?_
  rintro e w5 ⟨rfl, hk⟩
  replace HA : Aside0 (Blk w5 (w1.heap.size) 68 #[.float .f64 a1, .int .i64 a2, .int .i64 a3, .int .i64 a4, .int .i64 a5]) := ⟨Blk.step blk hk⟩
  replace HU : Aside0 (Blk w5 (w2.heap.size) 68 #[.float .f64 a1, .int .i64 a2, .int .i64 a3, .int .i64 a4, .int .i64 a5]) := ⟨Blk.step blk hk⟩
  replace HC : Aside0 (Blk w5 (w3.heap.size) 68 #[.float .f64 c1, .int .i64 c2, .int .i64 c3, .int .i64 c4, .int .i64 c5]) := ⟨Blk.step blk hk⟩
  replace HD : Aside0 (Blk w5 (w4.heap.size) 68 #[.float .f64 c1, .int .i64 c2, .int .i64 c3, .int .i64 c4, .int .i64 c5]) := ⟨Blk.step blk hk⟩
  replace HB := Aside0.mk (below_step bel hk)
  have hsw5 := hk.size
  try simp at hsw5
  clear hk
  obtain ⟨cA0, cA1, cA2, cA3, cA4, fA⟩ := HA.out.c5
  obtain ⟨cU0, cU1, cU2, cU3, cU4, fU⟩ := HU.out.c5
  obtain ⟨cC0, cC1, cC2, cC3, cC4, fC⟩ := HC.out.c5
  obtain ⟨cD0, cD1, cD2, cD3, cD4, fD⟩ := HD.out.c5
  have nAw5 : w1.heap.size < w5.heap.size := by omega
  have uAw5 : ¬ w1.heap.size = w5.heap.size := by omega
  have nUw5 : w2.heap.size < w5.heap.size := by omega
  have uUw5 : ¬ w2.heap.size = w5.heap.size := by omega
  have nCw5 : w3.heap.size < w5.heap.size := by omega
  have uCw5 : ¬ w3.heap.size = w5.heap.size := by omega
  have nDw5 : w4.heap.size < w5.heap.size := by omega
  have uDw5 : ¬ w4.heap.size = w5.heap.size := by omega
  go_wp2_with fail
  clear cA0 cA1 cA2 cA3 cA4 fA cU0 cU1 cU2 cU3 cU4 fU cC0 cC1 cC2 cC3 cC4 fC cD0 cD1 cD2 cD3 cD4 fD
  clear HA
  clear HU
  refine (same64_calls _ _ _ _ _ _).mono ?_
  rintro e w6 ⟨rfl, hk⟩
  replace HC : Aside0 (Blk w6 (w3.heap.size) 68 #[.float .f64 c1, .int .i64 c2, .int .i64 c3, .int .i64 c4, .int .i64 c5]) := ⟨Blk.step blk hk⟩
  replace HD : Aside0 (Blk w6 (w4.heap.size) 68 #[.float .f64 c1, .int .i64 c2, .int .i64 c3, .int .i64 c4, .int .i64 c5]) := ⟨Blk.step blk hk⟩
  replace HB := Aside0.mk (below_step bel hk)
  have hsw6 := hk.size
  try simp at hsw6
  clear hk
  obtain ⟨cC0, cC1, cC2, cC3, cC4, fC⟩ := HC.out.c5
  obtain ⟨cD0, cD1, cD2, cD3, cD4, fD⟩ := HD.out.c5
  have nCw6 : w3.heap.size < w6.heap.size := by omega
  have uCw6 : ¬ w3.heap.size = w6.heap.size := by omega
  have nDw6 : w4.heap.size < w6.heap.size := by omega
  have uDw6 : ¬ w4.heap.size = w6.heap.size := by omega
  go_wp2_with fail
  clear cC0 cC1 cC2 cC3 cC4 fC cD0 cD1 cD2 cD3 cD4 fD
  clear HC
  clear HD
  refine (RecF.awake_calls _).mono ?_
  rintro e w7 ⟨rfl, hk⟩
  replace HB := Aside0.mk (below_step bel hk)
  have hsw7 := hk.size
  try simp at hsw7
  clear hk
  go_wp2_with fail
  refine (CM.out _).mono ?_
  rintro e w8 ⟨rfl, hk⟩
  replace HB := Aside0.mk (below_step bel hk)
  have hsw8 := hk.size
  try simp at hsw8
  clear hk
  have HM := Aside0.mk (Blk.new w8 77 #[.float .f64 m1, .int .i64 m2, .int .i64 m3, .int .i64 m4, .int .i64 m5, .bool mb])
  go_wp2_with fail
  refine (CX.out _).mono ?_
  rintro e w9 ⟨rfl, hk⟩
  replace HM : Aside0 (Blk w9 (w8.heap.size) 77 #[.float .f64 m1, .int .i64 m2, .int .i64 m3, .int .i64 m4, .int .i64 m5, .bool mb]) := ⟨Blk.step blk hk⟩
  replace HB := Aside0.mk (below_step bel hk)
  have hsw9 := hk.size
  try simp at hsw9
  clear hk
  obtain ⟨cM0, cM1, cM2, cM3, cM4, cM5, fM⟩ := HM.out.c6
  have nMw9 : w8.heap.size < w9.heap.size := by omega
  have uMw9 : ¬ w8.heap.size = w9.heap.size := by omega
  have HX := Aside0.mk (Blk.new w9 73 #[.float .f64 z1, .int .i64 z2, .int .i64 z3, .int .i64 z4, .int .i64 z5, .int .i64 (B1)])
  go_wp2_with fail
  clear cM0 cM1 cM2 cM3 cM4 cM5 fM
  refine (CY.out _).mono ?_
  rintro e w10 ⟨rfl, hk⟩
  replace HM : Aside0 (Blk w10 (w8.heap.size) 77 #[.float .f64 m1, .int .i64 m2, .int .i64 m3, .int .i64 m4, .int .i64 m5, .bool mb]) := ⟨Blk.step blk hk⟩
  replace HX : Aside0 (Blk w10 (w9.heap.size) 73 #[.float .f64 z1, .int .i64 z2, .int .i64 z3, .int .i64 z4, .int .i64 z5, .int .i64 (B1)]) := ⟨Blk.step blk hk⟩
  replace HB := Aside0.mk (below_step bel hk)
  have hsw10 := hk.size
  try simp at hsw10
  clear hk
  obtain ⟨cM0, cM1, cM2, cM3, cM4, cM5, fM⟩ := HM.out.c6
  obtain ⟨cX0, cX1, cX2, cX3, cX4, cX5, fX⟩ := HX.out.c6
  have nMw10 : w8.heap.size < w10.heap.size := by omega
  have uMw10 : ¬ w8.heap.size = w10.heap.size := by omega
  have nXw10 : w9.heap.size < w10.heap.size := by omega
  have uXw10 : ¬ w9.heap.size = w10.heap.size := by omega
  have HY := Aside0.mk (Blk.new w10 68 #[.float .f64 y1, .int .i64 y2, .int .i64 y3, .int .i64 y4, .int .i64 y5])
  go_wp2_with fail
  clear cM0 cM1 cM2 cM3 cM4 cM5 fM cX0 cX1 cX2 cX3 cX4 cX5 fX
  refine (CZ.out _).mono ?_
  rintro e w11 ⟨rfl, hk⟩
  replace HM : Aside0 (Blk w11 (w8.heap.size) 77 #[.float .f64 m1, .int .i64 m2, .int .i64 m3, .int .i64 m4, .int .i64 m5, .bool mb]) := ⟨Blk.step blk hk⟩
  replace HX : Aside0 (Blk w11 (w9.heap.size) 73 #[.float .f64 z1, .int .i64 z2, .int .i64 z3, .int .i64 z4, .int .i64 z5, .int .i64 (B1)]) := ⟨Blk.step blk hk⟩
  replace HY : Aside0 (Blk w11 (w10.heap.size) 68 #[.float .f64 y1, .int .i64 y2, .int .i64 y3, .int .i64 y4, .int .i64 y5]) := ⟨Blk.step blk hk⟩
  replace HB := Aside0.mk (below_step bel hk)
  have hsw11 := hk.size
  try simp at hsw11
  clear hk
  obtain ⟨cM0, cM1, cM2, cM3, cM4, cM5, fM⟩ := HM.out.c6
  obtain ⟨cX0, cX1, cX2, cX3, cX4, cX5, fX⟩ := HX.out.c6
  obtain ⟨cY0, cY1, cY2, cY3, cY4, fY⟩ := HY.out.c5
  have nMw11 : w8.heap.size < w11.heap.size := by omega
  have uMw11 : ¬ w8.heap.size = w11.heap.size := by omega
  have nXw11 : w9.heap.size < w11.heap.size := by omega
  have uXw11 : ¬ w9.heap.size = w11.heap.size := by omega
  have nYw11 : w10.heap.size < w11.heap.size := by omega
  have uYw11 : ¬ w10.heap.size = w11.heap.size := by omega
  have HZ := Aside0.mk (Blk.new w11 68 #[.float .f64 z1, .int .i64 z2, .int .i64 z3, .int .i64 z4, .int .i64 z5])
  go_wp2_with fail
  refine wp_region_noPanic ?_
  refine wp_region_held_drew (S := (fun w' => w'.cell? ⟨w9.heap.size, 0, none⟩ = some (.float .f64 z1) ∧ w'.cell? ⟨w9.heap.size, 1, none⟩ = some (.int .i64 z2) ∧ w'.cell? ⟨w9.heap.size, 2, none⟩ = some (.int .i64 z3) ∧ w'.cell? ⟨w9.heap.size, 3, none⟩ = some (.int .i64 z4) ∧ w'.cell? ⟨w9.heap.size, 4, none⟩ = some (.int .i64 z5) ∧ w'.cell? ⟨w9.heap.size, 5, none⟩ = some (.int .i64 (B1)) ∧ w'.cell? ⟨w11.heap.size, 0, none⟩ = some (.float .f64 z1) ∧ w'.cell? ⟨w11.heap.size, 1, none⟩ = some (.int .i64 z2) ∧ w'.cell? ⟨w11.heap.size, 2, none⟩ = some (.int .i64 z3) ∧ w'.cell? ⟨w11.heap.size, 3, none⟩ = some (.int .i64 z4) ∧ w'.cell? ⟨w11.heap.size, 4, none⟩ = some (.int .i64 z5))) (by kernel_rfl) (by refine ⟨?_, ?_, ?_, ?_, ?_, ?_, ?_, ?_, ?_, ?_, ?_⟩ <;> first | assumption | (go_keep; done) | (go_simp; done) | (simp; omega)) (fun hHeld => ?_)
  change wpAnyH _ _ _ _ _ 17 _ _ _
  refine Rg.tk (fuel := 16) 0 ?_
  refine Rg.tk (fuel := 15) 1 ?_
  refine Rg.tk (fuel := 14) 2 ?_
  refine Rg.tk (fuel := 13) 3 ?_
  refine Rg.tk (fuel := 12) 4 ?_
  refine Rg.tk (fuel := 11) 5 ?_
  refine wpAnyH_ready (fuel := 10) (rs := [6]) (by kernel_rfl) (by simp) ?_
  refine AllReadyH.cons rfl (fun K hK => ?_) ?_
  · go_simp
    refine (same64_calls _ _ _ _ _ _).mono ?_
    rintro e w12 ⟨rfl, hk⟩
    replace HM : Aside0 (Blk w12 (w8.heap.size) 77 #[.float .f64 m1, .int .i64 m2, .int .i64 m3, .int .i64 m4, .int .i64 m5, .bool mb]) := ⟨Blk.step blk hk⟩
    replace HX : Aside0 (Blk w12 (w9.heap.size) 73 #[.float .f64 z1, .int .i64 z2, .int .i64 z3, .int .i64 z4, .int .i64 z5, .int .i64 (B1)]) := ⟨Blk.step blk hk⟩
    replace HY : Aside0 (Blk w12 (w10.heap.size) 68 #[.float .f64 y1, .int .i64 y2, .int .i64 y3, .int .i64 y4, .int .i64 y5]) := ⟨Blk.step blk hk⟩
    replace HZ : Aside0 (Blk w12 (w11.heap.size) 68 #[.float .f64 z1, .int .i64 z2, .int .i64 z3, .int .i64 z4, .int .i64 z5]) := ⟨Blk.step blk hk⟩
    replace HB := Aside0.mk (below_step bel hk)
    have hsw12 := hk.size
    try simp at hsw12
    clear hk
    obtain ⟨cM0, cM1, cM2, cM3, cM4, cM5, fM⟩ := HM.out.c6
    obtain ⟨cX0, cX1, cX2, cX3, cX4, cX5, fX⟩ := HX.out.c6
    obtain ⟨cY0, cY1, cY2, cY3, cY4, fY⟩ := HY.out.c5
    obtain ⟨cZ0, cZ1, cZ2, cZ3, cZ4, fZ⟩ := HZ.out.c5
    go_wp2_with fail
    refine hK.out _ _ (by refine ⟨?_, ?_, ?_, ?_, ?_, ?_, ?_, ?_, ?_, ?_, ?_⟩ <;> first | assumption | (go_keep; done) | (go_simp; done) | (simp; omega)) (fun hHeld => ?_)
    clear hK K
    try simp only [Act.put, List.setIfInBounds_toArray, List.set_cons_zero, List.set_cons_succ]
    refine Rg.tk (fuel := 9) 7 ?_
    refine Rg.tk (fuel := 8) 8 ?_
    refine Rg.tk (fuel := 7) 9 ?_
    refine Rg.tk (fuel := 6) 10 ?_
    refine Rg.tk (fuel := 5) 11 ?_
    refine Rg.tk (fuel := 4) 12 ?_
    refine Rg.tk (fuel := 3) 13 ?_
    refine Rg.tk (fuel := 2) 14 ?_
    refine Rg.tk (fuel := 1) 15 ?_
    refine Rg.tk (fuel := 0) 16 ?_
    refine wpAnyH_done (by kernel_rfl) ?_ _
    refine NoPanic.normal ?_
    go_wp2_with fail
    go_ret
    exact ⟨rfl, bel⟩
  exact AllReadyH.nil


set_option maxRecDepth 100000 in
set_option maxHeartbeats 8000000 in
theorem walk_g_k (s : ByteArray) (dst e g k l : Int) (a1 c1 m1 x1 y1 z1 : Nat) (a2 a3 a4 a5 c2 c3 c4 c5 m2 m3 m4 m5 x2 x3 x4 x5 xf y2 y3 y4 y5 z2 z3 z4 z5 : Int) (mb : Bool) (w : World) (hs : s.size = 27)
    (CA : Aside0 (Gives 61 #[.string s] (.tuple #[.agg #[.float .f64 a1, .int .i64 a2, .int .i64 a3, .int .i64 a4, .int .i64 a5], .int .i64 e]))) (CB : Aside0 (Gives 77 #[.string s] (.tuple #[.agg #[.float .f64 a1, .int .i64 a2, .int .i64 a3, .int .i64 a4, .int .i64 a5], .int .i64 e])))
    (CC : Aside0 (Gives 78 #[.string s, .int .i64 dst] (.tuple #[.agg #[.float .f64 c1, .int .i64 c2, .int .i64 c3, .int .i64 c4, .int .i64 c5], .int .i64 g]))) (CD : Aside0 (Gives 79 #[.string s, .int .i64 dst] (.tuple #[.agg #[.float .f64 c1, .int .i64 c2, .int .i64 c3, .int .i64 c4, .int .i64 c5], .int .i64 g])))
    (CM : Aside0 (Gives 62 #[.string s] (.tuple #[.agg #[.float .f64 m1, .int .i64 m2, .int .i64 m3, .int .i64 m4, .int .i64 m5, .bool mb], .int .i64 6]))) (CX : Aside0 (Gives 63 #[.string s] (.tuple #[.agg #[.float .f64 x1, .int .i64 x2, .int .i64 x3, .int .i64 x4, .int .i64 x5, .int .i64 xf], .int .i64 6])))
    (CY : Aside0 (Gives 77 #[.string (s.extract 1 s.size)] (.tuple #[.agg #[.float .f64 y1, .int .i64 y2, .int .i64 y3, .int .i64 y4, .int .i64 y5], .int .i64 0]))) (CZ : Aside0 (Gives 77 #[.string (s.extract 0 26)] (.tuple #[.agg #[.float .f64 z1, .int .i64 z2, .int .i64 z3, .int .i64 z4, .int .i64 z5], .int .i64 l])))
    (h0 : decide (1 < bt s 0) = true) (hl : 1 ≤ l) :
    Calls Try.prog 21 #[.string s, .int .i64 dst] w fun e w' => e = .returned (.bool true) ∧ Below w.heap.size w w' := by
  have HB := Aside0.mk (Below.refl w.heap.size w)
  have hu2 := Try.underlying42
  have hu3 := Try.underlying68
  have hu4 := Try.underlying73
  have hu5 := Try.underlying77
  have e1 : ∀ W : World, (Instr.slice 9 (.string s) (some (.int .i64 1)) none none).run Try.prog W = .ok (.string (s.extract 1 s.size)) W := fun W => Go.run_slice_string_l (P := Try.prog) W 9 s Try.underlying9 .i64 1 (by omega) (by omega)
  have e2 : ∀ W : World, (Instr.slice 9 (.string s) none (some (.int .i64 26)) none).run Try.prog W = .ok (.string (s.extract 0 26)) W := fun W => Go.run_slice_string_h (P := Try.prog) W 9 s Try.underlying9 .i64 26 (by omega) (by omega)
  have ei0 := run_bt s 0 (by decide) (by omega)
  have ei1 := run_bt s 26 (by decide) (by omega)
  have hb0 := bt_range s 0
  have hb1 := bt_range s 26
  generalize bt s 0 = B0 at *
  generalize bt s 26 = B1 at *
  have hw1 : IntKind.i64.wrap B1 = B1 := by rw [IntKind.wrap_i64]; omega
  clear hb0 hb1
  generalize s.extract 1 s.size = Y1 at *
  generalize s.extract 0 26 = Y2 at *
  go_enter Try.func21, Try.ntmps21
  go_wp2_with fail
  refine (CA.out _).mono ?_
  rintro e w1 ⟨rfl, hk⟩
  replace HB := Aside0.mk (below_step bel hk)
  have hsw1 := hk.size
  try simp at hsw1
  clear hk
  have HA := Aside0.mk (Blk.new w1 68 #[.float .f64 a1, .int .i64 a2, .int .i64 a3, .int .i64 a4, .int .i64 a5])
  go_wp2_with fail
  refine (CB.out _).mono ?_
  rintro e w2 ⟨rfl, hk⟩
  replace HA : Aside0 (Blk w2 (w1.heap.size) 68 #[.float .f64 a1, .int .i64 a2, .int .i64 a3, .int .i64 a4, .int .i64 a5]) := ⟨Blk.step blk hk⟩
  replace HB := Aside0.mk (below_step bel hk)
  have hsw2 := hk.size
  try simp at hsw2
  clear hk
  obtain ⟨cA0, cA1, cA2, cA3, cA4, fA⟩ := HA.out.c5
  have nAw2 : w1.heap.size < w2.heap.size := by omega
  have uAw2 : ¬ w1.heap.size = w2.heap.size := by omega
  have HU := Aside0.mk (Blk.new w2 68 #[.float .f64 a1, .int .i64 a2, .int .i64 a3, .int .i64 a4, .int .i64 a5])
  go_wp2_with fail
  clear cA0 cA1 cA2 cA3 cA4 fA
  refine (CC.out _).mono ?_
  rintro e w3 ⟨rfl, hk⟩
  replace HA : Aside0 (Blk w3 (w1.heap.size) 68 #[.float .f64 a1, .int .i64 a2, .int .i64 a3, .int .i64 a4, .int .i64 a5]) := ⟨Blk.step blk hk⟩
  replace HU : Aside0 (Blk w3 (w2.heap.size) 68 #[.float .f64 a1, .int .i64 a2, .int .i64 a3, .int .i64 a4, .int .i64 a5]) := ⟨Blk.step blk hk⟩
  replace HB := Aside0.mk (below_step bel hk)
  have hsw3 := hk.size
  try simp at hsw3
  clear hk
  obtain ⟨cA0, cA1, cA2, cA3, cA4, fA⟩ := HA.out.c5
  obtain ⟨cU0, cU1, cU2, cU3, cU4, fU⟩ := HU.out.c5
  have nAw3 : w1.heap.size < w3.heap.size := by omega
  have uAw3 : ¬ w1.heap.size = w3.heap.size := by omega
  have nUw3 : w2.heap.size < w3.heap.size := by omega
  have uUw3 : ¬ w2.heap.size = w3.heap.size := by omega
  have HC := Aside0.mk (Blk.new w3 68 #[.float .f64 c1, .int .i64 c2, .int .i64 c3, .int .i64 c4, .int .i64 c5])
  go_wp2_with fail
  clear cA0 cA1 cA2 cA3 cA4 fA cU0 cU1 cU2 cU3 cU4 fU
  refine (CD.out _).mono ?_
  rintro e w4 ⟨rfl, hk⟩
  replace HA : Aside0 (Blk w4 (w1.heap.size) 68 #[.float .f64 a1, .int .i64 a2, .int .i64 a3, .int .i64 a4, .int .i64 a5]) := ⟨Blk.step blk hk⟩
  replace HU : Aside0 (Blk w4 (w2.heap.size) 68 #[.float .f64 a1, .int .i64 a2, .int .i64 a3, .int .i64 a4, .int .i64 a5]) := ⟨Blk.step blk hk⟩
  replace HC : Aside0 (Blk w4 (w3.heap.size) 68 #[.float .f64 c1, .int .i64 c2, .int .i64 c3, .int .i64 c4, .int .i64 c5]) := ⟨Blk.step blk hk⟩
  replace HB := Aside0.mk (below_step bel hk)
  have hsw4 := hk.size
  try simp at hsw4
  clear hk
  obtain ⟨cA0, cA1, cA2, cA3, cA4, fA⟩ := HA.out.c5
  obtain ⟨cU0, cU1, cU2, cU3, cU4, fU⟩ := HU.out.c5
  obtain ⟨cC0, cC1, cC2, cC3, cC4, fC⟩ := HC.out.c5
  have nAw4 : w1.heap.size < w4.heap.size := by omega
  have uAw4 : ¬ w1.heap.size = w4.heap.size := by omega
  have nUw4 : w2.heap.size < w4.heap.size := by omega
  have uUw4 : ¬ w2.heap.size = w4.heap.size := by omega
  have nCw4 : w3.heap.size < w4.heap.size := by omega
  have uCw4 : ¬ w3.heap.size = w4.heap.size := by omega
  have HD := Aside0.mk (Blk.new w4 68 #[.float .f64 c1, .int .i64 c2, .int .i64 c3, .int .i64 c4, .int .i64 c5])
  go_wp2_with fail
  clear cA0 cA1 cA2 cA3 cA4 fA cU0 cU1 cU2 cU3 cU4 fU cC0 cC1 cC2 cC3 cC4 fC
  refine (same64_calls _ _ _ _ _ _).mono ?_
  rintro e w5 ⟨rfl, hk⟩
  replace HA : Aside0 (Blk w5 (w1.heap.size) 68 #[.float .f64 a1, .int .i64 a2, .int .i64 a3, .int .i64 a4, .int .i64 a5]) := ⟨Blk.step blk hk⟩
  replace HU : Aside0 (Blk w5 (w2.heap.size) 68 #[.float .f64 a1, .int .i64 a2, .int .i64 a3, .int .i64 a4, .int .i64 a5]) := ⟨Blk.step blk hk⟩
  replace HC : Aside0 (Blk w5 (w3.heap.size) 68 #[.float .f64 c1, .int .i64 c2, .int .i64 c3, .int .i64 c4, .int .i64 c5]) := ⟨Blk.step blk hk⟩
  replace HD : Aside0 (Blk w5 (w4.heap.size) 68 #[.float .f64 c1, .int .i64 c2, .int .i64 c3, .int .i64 c4, .int .i64 c5]) := ⟨Blk.step blk hk⟩
  replace HB := Aside0.mk (below_step bel hk)
  have hsw5 := hk.size
  try simp at hsw5
  clear hk
  obtain ⟨cA0, cA1, cA2, cA3, cA4, fA⟩ := HA.out.c5
  obtain ⟨cU0, cU1, cU2, cU3, cU4, fU⟩ := HU.out.c5
  obtain ⟨cC0, cC1, cC2, cC3, cC4, fC⟩ := HC.out.c5
  obtain ⟨cD0, cD1, cD2, cD3, cD4, fD⟩ := HD.out.c5
  have nAw5 : w1.heap.size < w5.heap.size := by omega
  have uAw5 : ¬ w1.heap.size = w5.heap.size := by omega
  have nUw5 : w2.heap.size < w5.heap.size := by omega
  have uUw5 : ¬ w2.heap.size = w5.heap.size := by omega
  have nCw5 : w3.heap.size < w5.heap.size := by omega
  have uCw5 : ¬ w3.heap.size = w5.heap.size := by omega
  have nDw5 : w4.heap.size < w5.heap.size := by omega
  have uDw5 : ¬ w4.heap.size = w5.heap.size := by omega
  go_wp2_with fail
  clear cA0 cA1 cA2 cA3 cA4 fA cU0 cU1 cU2 cU3 cU4 fU cC0 cC1 cC2 cC3 cC4 fC cD0 cD1 cD2 cD3 cD4 fD
  clear HA
  clear HU
  refine (same64_calls _ _ _ _ _ _).mono ?_
  rintro e w6 ⟨rfl, hk⟩
  replace HC : Aside0 (Blk w6 (w3.heap.size) 68 #[.float .f64 c1, .int .i64 c2, .int .i64 c3, .int .i64 c4, .int .i64 c5]) := ⟨Blk.step blk hk⟩
  replace HD : Aside0 (Blk w6 (w4.heap.size) 68 #[.float .f64 c1, .int .i64 c2, .int .i64 c3, .int .i64 c4, .int .i64 c5]) := ⟨Blk.step blk hk⟩
  replace HB := Aside0.mk (below_step bel hk)
  have hsw6 := hk.size
  try simp at hsw6
  clear hk
  obtain ⟨cC0, cC1, cC2, cC3, cC4, fC⟩ := HC.out.c5
  obtain ⟨cD0, cD1, cD2, cD3, cD4, fD⟩ := HD.out.c5
  have nCw6 : w3.heap.size < w6.heap.size := by omega
  have uCw6 : ¬ w3.heap.size = w6.heap.size := by omega
  have nDw6 : w4.heap.size < w6.heap.size := by omega
  have uDw6 : ¬ w4.heap.size = w6.heap.size := by omega
  go_wp2_with fail
  clear cC0 cC1 cC2 cC3 cC4 fC cD0 cD1 cD2 cD3 cD4 fD
  clear HC
  clear HD
  refine (RecF.awake_calls _).mono ?_
  rintro e w7 ⟨rfl, hk⟩
  replace HB := Aside0.mk (below_step bel hk)
  have hsw7 := hk.size
  try simp at hsw7
  clear hk
  go_wp2_with fail
  refine (CM.out _).mono ?_
  rintro e w8 ⟨rfl, hk⟩
  replace HB := Aside0.mk (below_step bel hk)
  have hsw8 := hk.size
  try simp at hsw8
  clear hk
  have HM := Aside0.mk (Blk.new w8 77 #[.float .f64 m1, .int .i64 m2, .int .i64 m3, .int .i64 m4, .int .i64 m5, .bool mb])
  go_wp2_with fail
  refine (CX.out _).mono ?_
  rintro e w9 ⟨rfl, hk⟩
  replace HM : Aside0 (Blk w9 (w8.heap.size) 77 #[.float .f64 m1, .int .i64 m2, .int .i64 m3, .int .i64 m4, .int .i64 m5, .bool mb]) := ⟨Blk.step blk hk⟩
  replace HB := Aside0.mk (below_step bel hk)
  have hsw9 := hk.size
  try simp at hsw9
  clear hk
  obtain ⟨cM0, cM1, cM2, cM3, cM4, cM5, fM⟩ := HM.out.c6
  have nMw9 : w8.heap.size < w9.heap.size := by omega
  have uMw9 : ¬ w8.heap.size = w9.heap.size := by omega
  have HX := Aside0.mk (Blk.new w9 73 #[.float .f64 x1, .int .i64 x2, .int .i64 x3, .int .i64 x4, .int .i64 x5, .int .i64 xf])
  go_wp2_with fail
  clear cM0 cM1 cM2 cM3 cM4 cM5 fM
  refine (CY.out _).mono ?_
  rintro e w10 ⟨rfl, hk⟩
  replace HM : Aside0 (Blk w10 (w8.heap.size) 77 #[.float .f64 m1, .int .i64 m2, .int .i64 m3, .int .i64 m4, .int .i64 m5, .bool mb]) := ⟨Blk.step blk hk⟩
  replace HX : Aside0 (Blk w10 (w9.heap.size) 73 #[.float .f64 x1, .int .i64 x2, .int .i64 x3, .int .i64 x4, .int .i64 x5, .int .i64 xf]) := ⟨Blk.step blk hk⟩
  replace HB := Aside0.mk (below_step bel hk)
  have hsw10 := hk.size
  try simp at hsw10
  clear hk
  obtain ⟨cM0, cM1, cM2, cM3, cM4, cM5, fM⟩ := HM.out.c6
  obtain ⟨cX0, cX1, cX2, cX3, cX4, cX5, fX⟩ := HX.out.c6
  have nMw10 : w8.heap.size < w10.heap.size := by omega
  have uMw10 : ¬ w8.heap.size = w10.heap.size := by omega
  have nXw10 : w9.heap.size < w10.heap.size := by omega
  have uXw10 : ¬ w9.heap.size = w10.heap.size := by omega
  have HY := Aside0.mk (Blk.new w10 68 #[.float .f64 y1, .int .i64 y2, .int .i64 y3, .int .i64 y4, .int .i64 y5])
  go_wp2_with fail
  clear cM0 cM1 cM2 cM3 cM4 cM5 fM cX0 cX1 cX2 cX3 cX4 cX5 fX
  refine (CZ.out _).mono ?_
  rintro e w11 ⟨rfl, hk⟩
  replace HM : Aside0 (Blk w11 (w8.heap.size) 77 #[.float .f64 m1, .int .i64 m2, .int .i64 m3, .int .i64 m4, .int .i64 m5, .bool mb]) := ⟨Blk.step blk hk⟩
  replace HX : Aside0 (Blk w11 (w9.heap.size) 73 #[.float .f64 x1, .int .i64 x2, .int .i64 x3, .int .i64 x4, .int .i64 x5, .int .i64 xf]) := ⟨Blk.step blk hk⟩
  replace HY : Aside0 (Blk w11 (w10.heap.size) 68 #[.float .f64 y1, .int .i64 y2, .int .i64 y3, .int .i64 y4, .int .i64 y5]) := ⟨Blk.step blk hk⟩
  replace HB := Aside0.mk (below_step bel hk)
  have hsw11 := hk.size
  try simp at hsw11
  clear hk
  obtain ⟨cM0, cM1, cM2, cM3, cM4, cM5, fM⟩ := HM.out.c6
  obtain ⟨cX0, cX1, cX2, cX3, cX4, cX5, fX⟩ := HX.out.c6
  obtain ⟨cY0, cY1, cY2, cY3, cY4, fY⟩ := HY.out.c5
  have nMw11 : w8.heap.size < w11.heap.size := by omega
  have uMw11 : ¬ w8.heap.size = w11.heap.size := by omega
  have nXw11 : w9.heap.size < w11.heap.size := by omega
  have uXw11 : ¬ w9.heap.size = w11.heap.size := by omega
  have nYw11 : w10.heap.size < w11.heap.size := by omega
  have uYw11 : ¬ w10.heap.size = w11.heap.size := by omega
  have HZ := Aside0.mk (Blk.new w11 68 #[.float .f64 z1, .int .i64 z2, .int .i64 z3, .int .i64 z4, .int .i64 z5])
  go_wp2_with fail
  go_ret
  exact ⟨rfl, bel⟩


set_option maxRecDepth 100000 in
set_option maxHeartbeats 8000000 in
theorem walk_g_g (s : ByteArray) (dst e g k l : Int) (a1 c1 m1 x1 y1 z1 : Nat) (a2 a3 a4 a5 c2 c3 c4 c5 m2 m3 m4 m5 x2 x3 x4 x5 xf y2 y3 y4 y5 z2 z3 z4 z5 : Int) (mb : Bool) (w : World) (hs : s.size = 27)
    (CA : Aside0 (Gives 61 #[.string s] (.tuple #[.agg #[.float .f64 a1, .int .i64 a2, .int .i64 a3, .int .i64 a4, .int .i64 a5], .int .i64 e]))) (CB : Aside0 (Gives 77 #[.string s] (.tuple #[.agg #[.float .f64 a1, .int .i64 a2, .int .i64 a3, .int .i64 a4, .int .i64 a5], .int .i64 e])))
    (CC : Aside0 (Gives 78 #[.string s, .int .i64 dst] (.tuple #[.agg #[.float .f64 c1, .int .i64 c2, .int .i64 c3, .int .i64 c4, .int .i64 c5], .int .i64 g]))) (CD : Aside0 (Gives 79 #[.string s, .int .i64 dst] (.tuple #[.agg #[.float .f64 c1, .int .i64 c2, .int .i64 c3, .int .i64 c4, .int .i64 c5], .int .i64 g])))
    (CM : Aside0 (Gives 62 #[.string s] (.tuple #[.agg #[.float .f64 m1, .int .i64 m2, .int .i64 m3, .int .i64 m4, .int .i64 m5, .bool mb], .int .i64 6]))) (CX : Aside0 (Gives 63 #[.string s] (.tuple #[.agg #[.float .f64 x1, .int .i64 x2, .int .i64 x3, .int .i64 x4, .int .i64 x5, .int .i64 xf], .int .i64 6])))
    (CY : Aside0 (Gives 77 #[.string (s.extract 1 s.size)] (.tuple #[.agg #[.float .f64 y1, .int .i64 y2, .int .i64 y3, .int .i64 y4, .int .i64 y5], .int .i64 0]))) (CZ : Aside0 (Gives 77 #[.string (s.extract 0 26)] (.tuple #[.agg #[.float .f64 z1, .int .i64 z2, .int .i64 z3, .int .i64 z4, .int .i64 z5], .int .i64 0])))
    (h0 : decide (1 < bt s 0) = true) (h26 : decide (7 < bt s 26) = true) :
    Calls Try.prog 21 #[.string s, .int .i64 dst] w fun e w' => e = .returned (.bool true) ∧ Below w.heap.size w w' := by
  have HB := Aside0.mk (Below.refl w.heap.size w)
  have hu2 := Try.underlying42
  have hu3 := Try.underlying68
  have hu4 := Try.underlying73
  have hu5 := Try.underlying77
  have e1 : ∀ W : World, (Instr.slice 9 (.string s) (some (.int .i64 1)) none none).run Try.prog W = .ok (.string (s.extract 1 s.size)) W := fun W => Go.run_slice_string_l (P := Try.prog) W 9 s Try.underlying9 .i64 1 (by omega) (by omega)
  have e2 : ∀ W : World, (Instr.slice 9 (.string s) none (some (.int .i64 26)) none).run Try.prog W = .ok (.string (s.extract 0 26)) W := fun W => Go.run_slice_string_h (P := Try.prog) W 9 s Try.underlying9 .i64 26 (by omega) (by omega)
  have ei0 := run_bt s 0 (by decide) (by omega)
  have ei1 := run_bt s 26 (by decide) (by omega)
  have hb0 := bt_range s 0
  have hb1 := bt_range s 26
  generalize bt s 0 = B0 at *
  generalize bt s 26 = B1 at *
  have hw1 : IntKind.i64.wrap B1 = B1 := by rw [IntKind.wrap_i64]; omega
  clear hb0 hb1
  generalize s.extract 1 s.size = Y1 at *
  generalize s.extract 0 26 = Y2 at *
  go_enter Try.func21, Try.ntmps21
  go_wp2_with fail
  refine (CA.out _).mono ?_
  rintro e w1 ⟨rfl, hk⟩
  replace HB := Aside0.mk (below_step bel hk)
  have hsw1 := hk.size
  try simp at hsw1
  clear hk
  have HA := Aside0.mk (Blk.new w1 68 #[.float .f64 a1, .int .i64 a2, .int .i64 a3, .int .i64 a4, .int .i64 a5])
  go_wp2_with fail
  refine (CB.out _).mono ?_
  rintro e w2 ⟨rfl, hk⟩
  replace HA : Aside0 (Blk w2 (w1.heap.size) 68 #[.float .f64 a1, .int .i64 a2, .int .i64 a3, .int .i64 a4, .int .i64 a5]) := ⟨Blk.step blk hk⟩
  replace HB := Aside0.mk (below_step bel hk)
  have hsw2 := hk.size
  try simp at hsw2
  clear hk
  obtain ⟨cA0, cA1, cA2, cA3, cA4, fA⟩ := HA.out.c5
  have nAw2 : w1.heap.size < w2.heap.size := by omega
  have uAw2 : ¬ w1.heap.size = w2.heap.size := by omega
  have HU := Aside0.mk (Blk.new w2 68 #[.float .f64 a1, .int .i64 a2, .int .i64 a3, .int .i64 a4, .int .i64 a5])
  go_wp2_with fail
  clear cA0 cA1 cA2 cA3 cA4 fA
  refine (CC.out _).mono ?_
  rintro e w3 ⟨rfl, hk⟩
  replace HA : Aside0 (Blk w3 (w1.heap.size) 68 #[.float .f64 a1, .int .i64 a2, .int .i64 a3, .int .i64 a4, .int .i64 a5]) := ⟨Blk.step blk hk⟩
  replace HU : Aside0 (Blk w3 (w2.heap.size) 68 #[.float .f64 a1, .int .i64 a2, .int .i64 a3, .int .i64 a4, .int .i64 a5]) := ⟨Blk.step blk hk⟩
  replace HB := Aside0.mk (below_step bel hk)
  have hsw3 := hk.size
  try simp at hsw3
  clear hk
  obtain ⟨cA0, cA1, cA2, cA3, cA4, fA⟩ := HA.out.c5
  obtain ⟨cU0, cU1, cU2, cU3, cU4, fU⟩ := HU.out.c5
  have nAw3 : w1.heap.size < w3.heap.size := by omega
  have uAw3 : ¬ w1.heap.size = w3.heap.size := by omega
  have nUw3 : w2.heap.size < w3.heap.size := by omega
  have uUw3 : ¬ w2.heap.size = w3.heap.size := by omega
  have HC := Aside0.mk (Blk.new w3 68 #[.float .f64 c1, .int .i64 c2, .int .i64 c3, .int .i64 c4, .int .i64 c5])
  go_wp2_with fail
  clear cA0 cA1 cA2 cA3 cA4 fA cU0 cU1 cU2 cU3 cU4 fU
  refine (CD.out _).mono ?_
  rintro e w4 ⟨rfl, hk⟩
  replace HA : Aside0 (Blk w4 (w1.heap.size) 68 #[.float .f64 a1, .int .i64 a2, .int .i64 a3, .int .i64 a4, .int .i64 a5]) := ⟨Blk.step blk hk⟩
  replace HU : Aside0 (Blk w4 (w2.heap.size) 68 #[.float .f64 a1, .int .i64 a2, .int .i64 a3, .int .i64 a4, .int .i64 a5]) := ⟨Blk.step blk hk⟩
  replace HC : Aside0 (Blk w4 (w3.heap.size) 68 #[.float .f64 c1, .int .i64 c2, .int .i64 c3, .int .i64 c4, .int .i64 c5]) := ⟨Blk.step blk hk⟩
  replace HB := Aside0.mk (below_step bel hk)
  have hsw4 := hk.size
  try simp at hsw4
  clear hk
  obtain ⟨cA0, cA1, cA2, cA3, cA4, fA⟩ := HA.out.c5
  obtain ⟨cU0, cU1, cU2, cU3, cU4, fU⟩ := HU.out.c5
  obtain ⟨cC0, cC1, cC2, cC3, cC4, fC⟩ := HC.out.c5
  have nAw4 : w1.heap.size < w4.heap.size := by omega
  have uAw4 : ¬ w1.heap.size = w4.heap.size := by omega
  have nUw4 : w2.heap.size < w4.heap.size := by omega
  have uUw4 : ¬ w2.heap.size = w4.heap.size := by omega
  have nCw4 : w3.heap.size < w4.heap.size := by omega
  have uCw4 : ¬ w3.heap.size = w4.heap.size := by omega
  have HD := Aside0.mk (Blk.new w4 68 #[.float .f64 c1, .int .i64 c2, .int .i64 c3, .int .i64 c4, .int .i64 c5])
  go_wp2_with fail
  clear cA0 cA1 cA2 cA3 cA4 fA cU0 cU1 cU2 cU3 cU4 fU cC0 cC1 cC2 cC3 cC4 fC
  refine (same64_calls _ _ _ _ _ _).mono ?_
  rintro e w5 ⟨rfl, hk⟩
  replace HA : Aside0 (Blk w5 (w1.heap.size) 68 #[.float .f64 a1, .int .i64 a2, .int .i64 a3, .int .i64 a4, .int .i64 a5]) := ⟨Blk.step blk hk⟩
  replace HU : Aside0 (Blk w5 (w2.heap.size) 68 #[.float .f64 a1, .int .i64 a2, .int .i64 a3, .int .i64 a4, .int .i64 a5]) := ⟨Blk.step blk hk⟩
  replace HC : Aside0 (Blk w5 (w3.heap.size) 68 #[.float .f64 c1, .int .i64 c2, .int .i64 c3, .int .i64 c4, .int .i64 c5]) := ⟨Blk.step blk hk⟩
  replace HD : Aside0 (Blk w5 (w4.heap.size) 68 #[.float .f64 c1, .int .i64 c2, .int .i64 c3, .int .i64 c4, .int .i64 c5]) := ⟨Blk.step blk hk⟩
  replace HB := Aside0.mk (below_step bel hk)
  have hsw5 := hk.size
  try simp at hsw5
  clear hk
  obtain ⟨cA0, cA1, cA2, cA3, cA4, fA⟩ := HA.out.c5
  obtain ⟨cU0, cU1, cU2, cU3, cU4, fU⟩ := HU.out.c5
  obtain ⟨cC0, cC1, cC2, cC3, cC4, fC⟩ := HC.out.c5
  obtain ⟨cD0, cD1, cD2, cD3, cD4, fD⟩ := HD.out.c5
  have nAw5 : w1.heap.size < w5.heap.size := by omega
  have uAw5 : ¬ w1.heap.size = w5.heap.size := by omega
  have nUw5 : w2.heap.size < w5.heap.size := by omega
  have uUw5 : ¬ w2.heap.size = w5.heap.size := by omega
  have nCw5 : w3.heap.size < w5.heap.size := by omega
  have uCw5 : ¬ w3.heap.size = w5.heap.size := by omega
  have nDw5 : w4.heap.size < w5.heap.size := by omega
  have uDw5 : ¬ w4.heap.size = w5.heap.size := by omega
  go_wp2_with fail
  clear cA0 cA1 cA2 cA3 cA4 fA cU0 cU1 cU2 cU3 cU4 fU cC0 cC1 cC2 cC3 cC4 fC cD0 cD1 cD2 cD3 cD4 fD
  clear HA
  clear HU
  refine (same64_calls _ _ _ _ _ _).mono ?_
  rintro e w6 ⟨rfl, hk⟩
  replace HC : Aside0 (Blk w6 (w3.heap.size) 68 #[.float .f64 c1, .int .i64 c2, .int .i64 c3, .int .i64 c4, .int .i64 c5]) := ⟨Blk.step blk hk⟩
  replace HD : Aside0 (Blk w6 (w4.heap.size) 68 #[.float .f64 c1, .int .i64 c2, .int .i64 c3, .int .i64 c4, .int .i64 c5]) := ⟨Blk.step blk hk⟩
  replace HB := Aside0.mk (below_step bel hk)
  have hsw6 := hk.size
  try simp at hsw6
  clear hk
  obtain ⟨cC0, cC1, cC2, cC3, cC4, fC⟩ := HC.out.c5
  obtain ⟨cD0, cD1, cD2, cD3, cD4, fD⟩ := HD.out.c5
  have nCw6 : w3.heap.size < w6.heap.size := by omega
  have uCw6 : ¬ w3.heap.size = w6.heap.size := by omega
  have nDw6 : w4.heap.size < w6.heap.size := by omega
  have uDw6 : ¬ w4.heap.size = w6.heap.size := by omega
  go_wp2_with fail
  clear cC0 cC1 cC2 cC3 cC4 fC cD0 cD1 cD2 cD3 cD4 fD
  clear HC
  clear HD
  refine (RecF.awake_calls _).mono ?_
  rintro e w7 ⟨rfl, hk⟩
  replace HB := Aside0.mk (below_step bel hk)
  have hsw7 := hk.size
  try simp at hsw7
  clear hk
  go_wp2_with fail
  refine (CM.out _).mono ?_
  rintro e w8 ⟨rfl, hk⟩
  replace HB := Aside0.mk (below_step bel hk)
  have hsw8 := hk.size
  try simp at hsw8
  clear hk
  have HM := Aside0.mk (Blk.new w8 77 #[.float .f64 m1, .int .i64 m2, .int .i64 m3, .int .i64 m4, .int .i64 m5, .bool mb])
  go_wp2_with fail
  refine (CX.out _).mono ?_
  rintro e w9 ⟨rfl, hk⟩
  replace HM : Aside0 (Blk w9 (w8.heap.size) 77 #[.float .f64 m1, .int .i64 m2, .int .i64 m3, .int .i64 m4, .int .i64 m5, .bool mb]) := ⟨Blk.step blk hk⟩
  replace HB := Aside0.mk (below_step bel hk)
  have hsw9 := hk.size
  try simp at hsw9
  clear hk
  obtain ⟨cM0, cM1, cM2, cM3, cM4, cM5, fM⟩ := HM.out.c6
  have nMw9 : w8.heap.size < w9.heap.size := by omega
  have uMw9 : ¬ w8.heap.size = w9.heap.size := by omega
  have HX := Aside0.mk (Blk.new w9 73 #[.float .f64 x1, .int .i64 x2, .int .i64 x3, .int .i64 x4, .int .i64 x5, .int .i64 xf])
  go_wp2_with fail
  clear cM0 cM1 cM2 cM3 cM4 cM5 fM
  refine (CY.out _).mono ?_
  rintro e w10 ⟨rfl, hk⟩
  replace HM : Aside0 (Blk w10 (w8.heap.size) 77 #[.float .f64 m1, .int .i64 m2, .int .i64 m3, .int .i64 m4, .int .i64 m5, .bool mb]) := ⟨Blk.step blk hk⟩
  replace HX : Aside0 (Blk w10 (w9.heap.size) 73 #[.float .f64 x1, .int .i64 x2, .int .i64 x3, .int .i64 x4, .int .i64 x5, .int .i64 xf]) := ⟨Blk.step blk hk⟩
  replace HB := Aside0.mk (below_step bel hk)
  have hsw10 := hk.size
  try simp at hsw10
  clear hk
  obtain ⟨cM0, cM1, cM2, cM3, cM4, cM5, fM⟩ := HM.out.c6
  obtain ⟨cX0, cX1, cX2, cX3, cX4, cX5, fX⟩ := HX.out.c6
  have nMw10 : w8.heap.size < w10.heap.size := by omega
  have uMw10 : ¬ w8.heap.size = w10.heap.size := by omega
  have nXw10 : w9.heap.size < w10.heap.size := by omega
  have uXw10 : ¬ w9.heap.size = w10.heap.size := by omega
  have HY := Aside0.mk (Blk.new w10 68 #[.float .f64 y1, .int .i64 y2, .int .i64 y3, .int .i64 y4, .int .i64 y5])
  go_wp2_with fail
  clear cM0 cM1 cM2 cM3 cM4 cM5 fM cX0 cX1 cX2 cX3 cX4 cX5 fX
  refine (CZ.out _).mono ?_
  rintro e w11 ⟨rfl, hk⟩
  replace HM : Aside0 (Blk w11 (w8.heap.size) 77 #[.float .f64 m1, .int .i64 m2, .int .i64 m3, .int .i64 m4, .int .i64 m5, .bool mb]) := ⟨Blk.step blk hk⟩
  replace HX : Aside0 (Blk w11 (w9.heap.size) 73 #[.float .f64 x1, .int .i64 x2, .int .i64 x3, .int .i64 x4, .int .i64 x5, .int .i64 xf]) := ⟨Blk.step blk hk⟩
  replace HY : Aside0 (Blk w11 (w10.heap.size) 68 #[.float .f64 y1, .int .i64 y2, .int .i64 y3, .int .i64 y4, .int .i64 y5]) := ⟨Blk.step blk hk⟩
  replace HB := Aside0.mk (below_step bel hk)
  have hsw11 := hk.size
  try simp at hsw11
  clear hk
  obtain ⟨cM0, cM1, cM2, cM3, cM4, cM5, fM⟩ := HM.out.c6
  obtain ⟨cX0, cX1, cX2, cX3, cX4, cX5, fX⟩ := HX.out.c6
  obtain ⟨cY0, cY1, cY2, cY3, cY4, fY⟩ := HY.out.c5
  have nMw11 : w8.heap.size < w11.heap.size := by omega
  have uMw11 : ¬ w8.heap.size = w11.heap.size := by omega
  have nXw11 : w9.heap.size < w11.heap.size := by omega
  have uXw11 : ¬ w9.heap.size = w11.heap.size := by omega
  have nYw11 : w10.heap.size < w11.heap.size := by omega
  have uYw11 : ¬ w10.heap.size = w11.heap.size := by omega
  have HZ := Aside0.mk (Blk.new w11 68 #[.float .f64 z1, .int .i64 z2, .int .i64 z3, .int .i64 z4, .int .i64 z5])
  go_wp2_with fail
  go_ret
  exact ⟨rfl, bel⟩


set_option maxRecDepth 100000 in
set_option maxHeartbeats 8000000 in
theorem walk_g_ok (s : ByteArray) (dst e g k l : Int) (a1 c1 m1 x1 y1 z1 : Nat) (a2 a3 a4 a5 c2 c3 c4 c5 m2 m3 m4 m5 x2 x3 x4 x5 xf y2 y3 y4 y5 z2 z3 z4 z5 : Int) (mb : Bool) (w : World) (hs : s.size = 27)
    (CA : Aside0 (Gives 61 #[.string s] (.tuple #[.agg #[.float .f64 a1, .int .i64 a2, .int .i64 a3, .int .i64 a4, .int .i64 a5], .int .i64 e]))) (CB : Aside0 (Gives 77 #[.string s] (.tuple #[.agg #[.float .f64 a1, .int .i64 a2, .int .i64 a3, .int .i64 a4, .int .i64 a5], .int .i64 e])))
    (CC : Aside0 (Gives 78 #[.string s, .int .i64 dst] (.tuple #[.agg #[.float .f64 c1, .int .i64 c2, .int .i64 c3, .int .i64 c4, .int .i64 c5], .int .i64 g]))) (CD : Aside0 (Gives 79 #[.string s, .int .i64 dst] (.tuple #[.agg #[.float .f64 c1, .int .i64 c2, .int .i64 c3, .int .i64 c4, .int .i64 c5], .int .i64 g])))
    (CM : Aside0 (Gives 62 #[.string s] (.tuple #[.agg #[.float .f64 m1, .int .i64 m2, .int .i64 m3, .int .i64 m4, .int .i64 m5, .bool mb], .int .i64 6]))) (CX : Aside0 (Gives 63 #[.string s] (.tuple #[.agg #[.float .f64 z1, .int .i64 z2, .int .i64 z3, .int .i64 z4, .int .i64 z5, .int .i64 (bt s 26)], .int .i64 0])))
    (CY : Aside0 (Gives 77 #[.string (s.extract 1 s.size)] (.tuple #[.agg #[.float .f64 y1, .int .i64 y2, .int .i64 y3, .int .i64 y4, .int .i64 y5], .int .i64 0]))) (CZ : Aside0 (Gives 77 #[.string (s.extract 0 26)] (.tuple #[.agg #[.float .f64 z1, .int .i64 z2, .int .i64 z3, .int .i64 z4, .int .i64 z5], .int .i64 0])))
    (h0 : decide (1 < bt s 0) = true) (h26 : decide (7 < bt s 26) = false) :
    Calls Try.prog 21 #[.string s, .int .i64 dst] w fun e w' => e = .returned (.bool true) ∧ Below w.heap.size w w' := by
  have HB := Aside0.mk (Below.refl w.heap.size w)
  have hu2 := Try.underlying42
  have hu3 := Try.underlying68
  have hu4 := Try.underlying73
  have hu5 := Try.underlying77
  have e1 : ∀ W : World, (Instr.slice 9 (.string s) (some (.int .i64 1)) none none).run Try.prog W = .ok (.string (s.extract 1 s.size)) W := fun W => Go.run_slice_string_l (P := Try.prog) W 9 s Try.underlying9 .i64 1 (by omega) (by omega)
  have e2 : ∀ W : World, (Instr.slice 9 (.string s) none (some (.int .i64 26)) none).run Try.prog W = .ok (.string (s.extract 0 26)) W := fun W => Go.run_slice_string_h (P := Try.prog) W 9 s Try.underlying9 .i64 26 (by omega) (by omega)
  have ei0 := run_bt s 0 (by decide) (by omega)
  have ei1 := run_bt s 26 (by decide) (by omega)
  have hb0 := bt_range s 0
  have hb1 := bt_range s 26
  generalize bt s 0 = B0 at *
  generalize bt s 26 = B1 at *
  have hw1 : IntKind.i64.wrap B1 = B1 := by rw [IntKind.wrap_i64]; omega
  clear hb0 hb1
  generalize s.extract 1 s.size = Y1 at *
  generalize s.extract 0 26 = Y2 at *
  go_enter Try.func21, Try.ntmps21
  go_wp2_with fail
  refine (CA.out _).mono ?_
  rintro e w1 ⟨rfl, hk⟩
  replace HB := Aside0.mk (below_step bel hk)
  have hsw1 := hk.size
  try simp at hsw1
  clear hk
  have HA := Aside0.mk (Blk.new w1 68 #[.float .f64 a1, .int .i64 a2, .int .i64 a3, .int .i64 a4, .int .i64 a5])
  go_wp2_with fail
  refine (CB.out _).mono ?_
  rintro e w2 ⟨rfl, hk⟩
  replace HA : Aside0 (Blk w2 (w1.heap.size) 68 #[.float .f64 a1, .int .i64 a2, .int .i64 a3, .int .i64 a4, .int .i64 a5]) := ⟨Blk.step blk hk⟩
  replace HB := Aside0.mk (below_step bel hk)
  have hsw2 := hk.size
  try simp at hsw2
  clear hk
  obtain ⟨cA0, cA1, cA2, cA3, cA4, fA⟩ := HA.out.c5
  have nAw2 : w1.heap.size < w2.heap.size := by omega
  have uAw2 : ¬ w1.heap.size = w2.heap.size := by omega
  have HU := Aside0.mk (Blk.new w2 68 #[.float .f64 a1, .int .i64 a2, .int .i64 a3, .int .i64 a4, .int .i64 a5])
  go_wp2_with fail
  clear cA0 cA1 cA2 cA3 cA4 fA
  refine (CC.out _).mono ?_
  rintro e w3 ⟨rfl, hk⟩
  replace HA : Aside0 (Blk w3 (w1.heap.size) 68 #[.float .f64 a1, .int .i64 a2, .int .i64 a3, .int .i64 a4, .int .i64 a5]) := ⟨Blk.step blk hk⟩
  replace HU : Aside0 (Blk w3 (w2.heap.size) 68 #[.float .f64 a1, .int .i64 a2, .int .i64 a3, .int .i64 a4, .int .i64 a5]) := ⟨Blk.step blk hk⟩
  replace HB := Aside0.mk (below_step bel hk)
  have hsw3 := hk.size
  try simp at hsw3
  clear hk
  obtain ⟨cA0, cA1, cA2, cA3, cA4, fA⟩ := HA.out.c5
  obtain ⟨cU0, cU1, cU2, cU3, cU4, fU⟩ := HU.out.c5
  have nAw3 : w1.heap.size < w3.heap.size := by omega
  have uAw3 : ¬ w1.heap.size = w3.heap.size := by omega
  have nUw3 : w2.heap.size < w3.heap.size := by omega
  have uUw3 : ¬ w2.heap.size = w3.heap.size := by omega
  have HC := Aside0.mk (Blk.new w3 68 #[.float .f64 c1, .int .i64 c2, .int .i64 c3, .int .i64 c4, .int .i64 c5])
  go_wp2_with fail
  clear cA0 cA1 cA2 cA3 cA4 fA cU0 cU1 cU2 cU3 cU4 fU
  refine (CD.out _).mono ?_
  rintro e w4 ⟨rfl, hk⟩
  replace HA : Aside0 (Blk w4 (w1.heap.size) 68 #[.float .f64 a1, .int .i64 a2, .int .i64 a3, .int .i64 a4, .int .i64 a5]) := ⟨Blk.step blk hk⟩
  replace HU : Aside0 (Blk w4 (w2.heap.size) 68 #[.float .f64 a1, .int .i64 a2, .int .i64 a3, .int .i64 a4, .int .i64 a5]) := ⟨Blk.step blk hk⟩
  replace HC : Aside0 (Blk w4 (w3.heap.size) 68 #[.float .f64 c1, .int .i64 c2, .int .i64 c3, .int .i64 c4, .int .i64 c5]) := ⟨Blk.step blk hk⟩
  replace HB := Aside0.mk (below_step bel hk)
  have hsw4 := hk.size
  try simp at hsw4
  clear hk
  obtain ⟨cA0, cA1, cA2, cA3, cA4, fA⟩ := HA.out.c5
  obtain ⟨cU0, cU1, cU2, cU3, cU4, fU⟩ := HU.out.c5
  obtain ⟨cC0, cC1, cC2, cC3, cC4, fC⟩ := HC.out.c5
  have nAw4 : w1.heap.size < w4.heap.size := by omega
  have uAw4 : ¬ w1.heap.size = w4.heap.size := by omega
  have nUw4 : w2.heap.size < w4.heap.size := by omega
  have uUw4 : ¬ w2.heap.size = w4.heap.size := by omega
  have nCw4 : w3.heap.size < w4.heap.size := by omega
  have uCw4 : ¬ w3.heap.size = w4.heap.size := by omega
  have HD := Aside0.mk (Blk.new w4 68 #[.float .f64 c1, .int .i64 c2, .int .i64 c3, .int .i64 c4, .int .i64 c5])
  go_wp2_with fail
  clear cA0 cA1 cA2 cA3 cA4 fA cU0 cU1 cU2 cU3 cU4 fU cC0 cC1 cC2 cC3 cC4 fC
  refine (same64_calls _ _ _ _ _ _).mono ?_
  rintro e w5 ⟨rfl, hk⟩
  replace HA : Aside0 (Blk w5 (w1.heap.size) 68 #[.float .f64 a1, .int .i64 a2, .int .i64 a3, .int .i64 a4, .int .i64 a5]) := ⟨Blk.step blk hk⟩
  replace HU : Aside0 (Blk w5 (w2.heap.size) 68 #[.float .f64 a1, .int .i64 a2, .int .i64 a3, .int .i64 a4, .int .i64 a5]) := ⟨Blk.step blk hk⟩
  replace HC : Aside0 (Blk w5 (w3.heap.size) 68 #[.float .f64 c1, .int .i64 c2, .int .i64 c3, .int .i64 c4, .int .i64 c5]) := ⟨Blk.step blk hk⟩
  replace HD : Aside0 (Blk w5 (w4.heap.size) 68 #[.float .f64 c1, .int .i64 c2, .int .i64 c3, .int .i64 c4, .int .i64 c5]) := ⟨Blk.step blk hk⟩
  replace HB := Aside0.mk (below_step bel hk)
  have hsw5 := hk.size
  try simp at hsw5
  clear hk
  obtain ⟨cA0, cA1, cA2, cA3, cA4, fA⟩ := HA.out.c5
  obtain ⟨cU0, cU1, cU2, cU3, cU4, fU⟩ := HU.out.c5
  obtain ⟨cC0, cC1, cC2, cC3, cC4, fC⟩ := HC.out.c5
  obtain ⟨cD0, cD1, cD2, cD3, cD4, fD⟩ := HD.out.c5
  have nAw5 : w1.heap.size < w5.heap.size := by omega
  have uAw5 : ¬ w1.heap.size = w5.heap.size := by omega
  have nUw5 : w2.heap.size < w5.heap.size := by omega
  have uUw5 : ¬ w2.heap.size = w5.heap.size := by omega
  have nCw5 : w3.heap.size < w5.heap.size := by omega
  have uCw5 : ¬ w3.heap.size = w5.heap.size := by omega
  have nDw5 : w4.heap.size < w5.heap.size := by omega
  have uDw5 : ¬ w4.heap.size = w5.heap.size := by omega
  go_wp2_with fail
  clear cA0 cA1 cA2 cA3 cA4 fA cU0 cU1 cU2 cU3 cU4 fU cC0 cC1 cC2 cC3 cC4 fC cD0 cD1 cD2 cD3 cD4 fD
  clear HA
  clear HU
  refine (same64_calls _ _ _ _ _ _).mono ?_
  rintro e w6 ⟨rfl, hk⟩
  replace HC : Aside0 (Blk w6 (w3.heap.size) 68 #[.float .f64 c1, .int .i64 c2, .int .i64 c3, .int .i64 c4, .int .i64 c5]) := ⟨Blk.step blk hk⟩
  replace HD : Aside0 (Blk w6 (w4.heap.size) 68 #[.float .f64 c1, .int .i64 c2, .int .i64 c3, .int .i64 c4, .int .i64 c5]) := ⟨Blk.step blk hk⟩
  replace HB := Aside0.mk (below_step bel hk)
  have hsw6 := hk.size
  try simp at hsw6
  clear hk
  obtain ⟨cC0, cC1, cC2, cC3, cC4, fC⟩ := HC.out.c5
  obtain ⟨cD0, cD1, cD2, cD3, cD4, fD⟩ := HD.out.c5
  have nCw6 : w3.heap.size < w6.heap.size := by omega
  have uCw6 : ¬ w3.heap.size = w6.heap.size := by omega
  have nDw6 : w4.heap.size < w6.heap.size := by omega
  have uDw6 : ¬ w4.heap.size = w6.heap.size := by omega
  go_wp2_with fail
  clear cC0 cC1 cC2 cC3 cC4 fC cD0 cD1 cD2 cD3 cD4 fD
  clear HC
  clear HD
  refine (RecF.awake_calls _).mono ?_
  rintro e w7 ⟨rfl, hk⟩
  replace HB := Aside0.mk (below_step bel hk)
  have hsw7 := hk.size
  try simp at hsw7
  clear hk
  go_wp2_with fail
  refine (CM.out _).mono ?_
  rintro e w8 ⟨rfl, hk⟩
  replace HB := Aside0.mk (below_step bel hk)
  have hsw8 := hk.size
  try simp at hsw8
  clear hk
  have HM := Aside0.mk (Blk.new w8 77 #[.float .f64 m1, .int .i64 m2, .int .i64 m3, .int .i64 m4, .int .i64 m5, .bool mb])
  go_wp2_with fail
  refine (CX.out _).mono ?_
  rintro e w9 ⟨rfl, hk⟩
  replace HM : Aside0 (Blk w9 (w8.heap.size) 77 #[.float .f64 m1, .int .i64 m2, .int .i64 m3, .int .i64 m4, .int .i64 m5, .bool mb]) := ⟨Blk.step blk hk⟩
  replace HB := Aside0.mk (below_step bel hk)
  have hsw9 := hk.size
  try simp at hsw9
  clear hk
  obtain ⟨cM0, cM1, cM2, cM3, cM4, cM5, fM⟩ := HM.out.c6
  have nMw9 : w8.heap.size < w9.heap.size := by omega
  have uMw9 : ¬ w8.heap.size = w9.heap.size := by omega
  have HX := Aside0.mk (Blk.new w9 73 #[.float .f64 z1, .int .i64 z2, .int .i64 z3, .int .i64 z4, .int .i64 z5, .int .i64 (B1)])
  go_wp2_with fail
  clear cM0 cM1 cM2 cM3 cM4 cM5 fM
  refine (CY.out _).mono ?_
  rintro e w10 ⟨rfl, hk⟩
  replace HM : Aside0 (Blk w10 (w8.heap.size) 77 #[.float .f64 m1, .int .i64 m2, .int .i64 m3, .int .i64 m4, .int .i64 m5, .bool mb]) := ⟨Blk.step blk hk⟩
  replace HX : Aside0 (Blk w10 (w9.heap.size) 73 #[.float .f64 z1, .int .i64 z2, .int .i64 z3, .int .i64 z4, .int .i64 z5, .int .i64 (B1)]) := ⟨Blk.step blk hk⟩
  replace HB := Aside0.mk (below_step bel hk)
  have hsw10 := hk.size
  try simp at hsw10
  clear hk
  obtain ⟨cM0, cM1, cM2, cM3, cM4, cM5, fM⟩ := HM.out.c6
  obtain ⟨cX0, cX1, cX2, cX3, cX4, cX5, fX⟩ := HX.out.c6
  have nMw10 : w8.heap.size < w10.heap.size := by omega
  have uMw10 : ¬ w8.heap.size = w10.heap.size := by omega
  have nXw10 : w9.heap.size < w10.heap.size := by omega
  have uXw10 : ¬ w9.heap.size = w10.heap.size := by omega
  have HY := Aside0.mk (Blk.new w10 68 #[.float .f64 y1, .int .i64 y2, .int .i64 y3, .int .i64 y4, .int .i64 y5])
  go_wp2_with fail
  clear cM0 cM1 cM2 cM3 cM4 cM5 fM cX0 cX1 cX2 cX3 cX4 cX5 fX
  refine (CZ.out _).mono ?_
  rintro e w11 ⟨rfl, hk⟩
  replace HM : Aside0 (Blk w11 (w8.heap.size) 77 #[.float .f64 m1, .int .i64 m2, .int .i64 m3, .int .i64 m4, .int .i64 m5, .bool mb]) := ⟨Blk.step blk hk⟩
  replace HX : Aside0 (Blk w11 (w9.heap.size) 73 #[.float .f64 z1, .int .i64 z2, .int .i64 z3, .int .i64 z4, .int .i64 z5, .int .i64 (B1)]) := ⟨Blk.step blk hk⟩
  replace HY : Aside0 (Blk w11 (w10.heap.size) 68 #[.float .f64 y1, .int .i64 y2, .int .i64 y3, .int .i64 y4, .int .i64 y5]) := ⟨Blk.step blk hk⟩
  replace HB := Aside0.mk (below_step bel hk)
  have hsw11 := hk.size
  try simp at hsw11
  clear hk
  obtain ⟨cM0, cM1, cM2, cM3, cM4, cM5, fM⟩ := HM.out.c6
  obtain ⟨cX0, cX1, cX2, cX3, cX4, cX5, fX⟩ := HX.out.c6
  obtain ⟨cY0, cY1, cY2, cY3, cY4, fY⟩ := HY.out.c5
  have nMw11 : w8.heap.size < w11.heap.size := by omega
  have uMw11 : ¬ w8.heap.size = w11.heap.size := by omega
  have nXw11 : w9.heap.size < w11.heap.size := by omega
  have uXw11 : ¬ w9.heap.size = w11.heap.size := by omega
  have nYw11 : w10.heap.size < w11.heap.size := by omega
  have uYw11 : ¬ w10.heap.size = w11.heap.size := by omega
  have HZ := Aside0.mk (Blk.new w11 68 #[.float .f64 z1, .int .i64 z2, .int .i64 z3, .int .i64 z4, .int .i64 z5])
  go_wp2_with fail
  refine wp_region_noPanic ?_
  refine wp_region_held_drew (S := (fun w' => w'.cell? ⟨w9.heap.size, 0, none⟩ = some (.float .f64 z1) ∧ w'.cell? ⟨w9.heap.size, 1, none⟩ = some (.int .i64 z2) ∧ w'.cell? ⟨w9.heap.size, 2, none⟩ = some (.int .i64 z3) ∧ w'.cell? ⟨w9.heap.size, 3, none⟩ = some (.int .i64 z4) ∧ w'.cell? ⟨w9.heap.size, 4, none⟩ = some (.int .i64 z5) ∧ w'.cell? ⟨w9.heap.size, 5, none⟩ = some (.int .i64 (B1)) ∧ w'.cell? ⟨w11.heap.size, 0, none⟩ = some (.float .f64 z1) ∧ w'.cell? ⟨w11.heap.size, 1, none⟩ = some (.int .i64 z2) ∧ w'.cell? ⟨w11.heap.size, 2, none⟩ = some (.int .i64 z3) ∧ w'.cell? ⟨w11.heap.size, 3, none⟩ = some (.int .i64 z4) ∧ w'.cell? ⟨w11.heap.size, 4, none⟩ = some (.int .i64 z5))) (by kernel_rfl) (by refine ⟨?_, ?_, ?_, ?_, ?_, ?_, ?_, ?_, ?_, ?_, ?_⟩ <;> first | assumption | (go_keep; done) | (go_simp; done) | (simp; omega)) (fun hHeld => ?_)
  change wpAnyH _ _ _ _ _ 17 _ _ _
  refine Rg.tk (fuel := 16) 0 ?_
  refine Rg.tk (fuel := 15) 1 ?_
  refine Rg.tk (fuel := 14) 2 ?_
  refine Rg.tk (fuel := 13) 3 ?_
  refine Rg.tk (fuel := 12) 4 ?_
  refine Rg.tk (fuel := 11) 5 ?_
  refine wpAnyH_ready (fuel := 10) (rs := [6]) (by kernel_rfl) (by simp) ?_
  refine AllReadyH.cons rfl (fun K hK => ?_) ?_
  · go_simp
    refine (same64_calls _ _ _ _ _ _).mono ?_
    rintro e w12 ⟨rfl, hk⟩
    replace HM : Aside0 (Blk w12 (w8.heap.size) 77 #[.float .f64 m1, .int .i64 m2, .int .i64 m3, .int .i64 m4, .int .i64 m5, .bool mb]) := ⟨Blk.step blk hk⟩
    replace HX : Aside0 (Blk w12 (w9.heap.size) 73 #[.float .f64 z1, .int .i64 z2, .int .i64 z3, .int .i64 z4, .int .i64 z5, .int .i64 (B1)]) := ⟨Blk.step blk hk⟩
    replace HY : Aside0 (Blk w12 (w10.heap.size) 68 #[.float .f64 y1, .int .i64 y2, .int .i64 y3, .int .i64 y4, .int .i64 y5]) := ⟨Blk.step blk hk⟩
    replace HZ : Aside0 (Blk w12 (w11.heap.size) 68 #[.float .f64 z1, .int .i64 z2, .int .i64 z3, .int .i64 z4, .int .i64 z5]) := ⟨Blk.step blk hk⟩
    replace HB := Aside0.mk (below_step bel hk)
    have hsw12 := hk.size
    try simp at hsw12
    clear hk
    obtain ⟨cM0, cM1, cM2, cM3, cM4, cM5, fM⟩ := HM.out.c6
    obtain ⟨cX0, cX1, cX2, cX3, cX4, cX5, fX⟩ := HX.out.c6
    obtain ⟨cY0, cY1, cY2, cY3, cY4, fY⟩ := HY.out.c5
    obtain ⟨cZ0, cZ1, cZ2, cZ3, cZ4, fZ⟩ := HZ.out.c5
    go_wp2_with fail
    refine hK.out _ _ (by refine ⟨?_, ?_, ?_, ?_, ?_, ?_, ?_, ?_, ?_, ?_, ?_⟩ <;> first | assumption | (go_keep; done) | (go_simp; done) | (simp; omega)) (fun hHeld => ?_)
    clear hK K
    try simp only [Act.put, List.setIfInBounds_toArray, List.set_cons_zero, List.set_cons_succ]
    refine Rg.tk (fuel := 9) 7 ?_
    refine Rg.tk (fuel := 8) 8 ?_
    refine Rg.tk (fuel := 7) 9 ?_
    refine Rg.tk (fuel := 6) 10 ?_
    refine Rg.tk (fuel := 5) 11 ?_
    refine Rg.tk (fuel := 4) 12 ?_
    refine Rg.tk (fuel := 3) 13 ?_
    refine Rg.tk (fuel := 2) 14 ?_
    refine Rg.tk (fuel := 1) 15 ?_
    refine Rg.tk (fuel := 0) 16 ?_
    refine wpAnyH_done (by kernel_rfl) ?_ _
    refine NoPanic.normal ?_
    go_wp2_with fail
    go_ret
    exact ⟨rfl, bel⟩
  exact AllReadyH.nil


set_option maxRecDepth 100000 in
set_option maxHeartbeats 8000000 in
theorem walk_ok_k (s : ByteArray) (dst e g k l : Int) (a1 c1 m1 x1 y1 z1 : Nat) (a2 a3 a4 a5 c2 c3 c4 c5 m2 m3 m4 m5 x2 x3 x4 x5 xf y2 y3 y4 y5 z2 z3 z4 z5 : Int) (mb : Bool) (w : World) (hs : s.size = 27)
    (CA : Aside0 (Gives 61 #[.string s] (.tuple #[.agg #[.float .f64 a1, .int .i64 a2, .int .i64 a3, .int .i64 a4, .int .i64 a5], .int .i64 e]))) (CB : Aside0 (Gives 77 #[.string s] (.tuple #[.agg #[.float .f64 a1, .int .i64 a2, .int .i64 a3, .int .i64 a4, .int .i64 a5], .int .i64 e])))
    (CC : Aside0 (Gives 78 #[.string s, .int .i64 dst] (.tuple #[.agg #[.float .f64 c1, .int .i64 c2, .int .i64 c3, .int .i64 c4, .int .i64 c5], .int .i64 g]))) (CD : Aside0 (Gives 79 #[.string s, .int .i64 dst] (.tuple #[.agg #[.float .f64 c1, .int .i64 c2, .int .i64 c3, .int .i64 c4, .int .i64 c5], .int .i64 g])))
    (CM : Aside0 (Gives 62 #[.string s] (.tuple #[.agg #[.float .f64 y1, .int .i64 y2, .int .i64 y3, .int .i64 y4, .int .i64 y5, .bool (bt s 0 == 1)], .int .i64 0]))) (CX : Aside0 (Gives 63 #[.string s] (.tuple #[.agg #[.float .f64 x1, .int .i64 x2, .int .i64 x3, .int .i64 x4, .int .i64 x5, .int .i64 xf], .int .i64 6])))
    (CY : Aside0 (Gives 77 #[.string (s.extract 1 s.size)] (.tuple #[.agg #[.float .f64 y1, .int .i64 y2, .int .i64 y3, .int .i64 y4, .int .i64 y5], .int .i64 0]))) (CZ : Aside0 (Gives 77 #[.string (s.extract 0 26)] (.tuple #[.agg #[.float .f64 z1, .int .i64 z2, .int .i64 z3, .int .i64 z4, .int .i64 z5], .int .i64 l])))
    (h0 : decide (1 < bt s 0) = false) (hl : 1 ≤ l) :
    Calls Try.prog 21 #[.string s, .int .i64 dst] w fun e w' => e = .returned (.bool true) ∧ Below w.heap.size w w' := by
  have HB := Aside0.mk (Below.refl w.heap.size w)
  have hu2 := Try.underlying42
  have hu3 := Try.underlying68
  have hu4 := Try.underlying73
  have hu5 := Try.underlying77
  have e1 : ∀ W : World, (Instr.slice 9 (.string s) (some (.int .i64 1)) none none).run Try.prog W = .ok (.string (s.extract 1 s.size)) W := fun W => Go.run_slice_string_l (P := Try.prog) W 9 s Try.underlying9 .i64 1 (by omega) (by omega)
  have e2 : ∀ W : World, (Instr.slice 9 (.string s) none (some (.int .i64 26)) none).run Try.prog W = .ok (.string (s.extract 0 26)) W := fun W => Go.run_slice_string_h (P := Try.prog) W 9 s Try.underlying9 .i64 26 (by omega) (by omega)
  have ei0 := run_bt s 0 (by decide) (by omega)
  have ei1 := run_bt s 26 (by decide) (by omega)
  have hb0 := bt_range s 0
  have hb1 := bt_range s 26
  generalize bt s 0 = B0 at *
  generalize bt s 26 = B1 at *
  have hw1 : IntKind.i64.wrap B1 = B1 := by rw [IntKind.wrap_i64]; omega
  clear hb0 hb1
  generalize s.extract 1 s.size = Y1 at *
  generalize s.extract 0 26 = Y2 at *
  go_enter Try.func21, Try.ntmps21
  go_wp2_with fail
  refine (CA.out _).mono ?_
  rintro e w1 ⟨rfl, hk⟩
  replace HB := Aside0.mk (below_step bel hk)
  have hsw1 := hk.size
  try simp at hsw1
  clear hk
  have HA := Aside0.mk (Blk.new w1 68 #[.float .f64 a1, .int .i64 a2, .int .i64 a3, .int .i64 a4, .int .i64 a5])
  go_wp2_with fail
  refine (CB.out _).mono ?_
  rintro e w2 ⟨rfl, hk⟩
  replace HA : Aside0 (Blk w2 (w1.heap.size) 68 #[.float .f64 a1, .int .i64 a2, .int .i64 a3, .int .i64 a4, .int .i64 a5]) := ⟨Blk.step blk hk⟩
  replace HB := Aside0.mk (below_step bel hk)
  have hsw2 := hk.size
  try simp at hsw2
  clear hk
  obtain ⟨cA0, cA1, cA2, cA3, cA4, fA⟩ := HA.out.c5
  have nAw2 : w1.heap.size < w2.heap.size := by omega
  have uAw2 : ¬ w1.heap.size = w2.heap.size := by omega
  have HU := Aside0.mk (Blk.new w2 68 #[.float .f64 a1, .int .i64 a2, .int .i64 a3, .int .i64 a4, .int .i64 a5])
  go_wp2_with fail
  clear cA0 cA1 cA2 cA3 cA4 fA
  refine (CC.out _).mono ?_
  rintro e w3 ⟨rfl, hk⟩
  replace HA : Aside0 (Blk w3 (w1.heap.size) 68 #[.float .f64 a1, .int .i64 a2, .int .i64 a3, .int .i64 a4, .int .i64 a5]) := ⟨Blk.step blk hk⟩
  replace HU : Aside0 (Blk w3 (w2.heap.size) 68 #[.float .f64 a1, .int .i64 a2, .int .i64 a3, .int .i64 a4, .int .i64 a5]) := ⟨Blk.step blk hk⟩
  replace HB := Aside0.mk (below_step bel hk)
  have hsw3 := hk.size
  try simp at hsw3
  clear hk
  obtain ⟨cA0, cA1, cA2, cA3, cA4, fA⟩ := HA.out.c5
  obtain ⟨cU0, cU1, cU2, cU3, cU4, fU⟩ := HU.out.c5
  have nAw3 : w1.heap.size < w3.heap.size := by omega
  have uAw3 : ¬ w1.heap.size = w3.heap.size := by omega
  have nUw3 : w2.heap.size < w3.heap.size := by omega
  have uUw3 : ¬ w2.heap.size = w3.heap.size := by omega
  have HC := Aside0.mk (Blk.new w3 68 #[.float .f64 c1, .int .i64 c2, .int .i64 c3, .int .i64 c4, .int .i64 c5])
  go_wp2_with fail
  clear cA0 cA1 cA2 cA3 cA4 fA cU0 cU1 cU2 cU3 cU4 fU
  refine (CD.out _).mono ?_
  rintro e w4 ⟨rfl, hk⟩
  replace HA : Aside0 (Blk w4 (w1.heap.size) 68 #[.float .f64 a1, .int .i64 a2, .int .i64 a3, .int .i64 a4, .int .i64 a5]) := ⟨Blk.step blk hk⟩
  replace HU : Aside0 (Blk w4 (w2.heap.size) 68 #[.float .f64 a1, .int .i64 a2, .int .i64 a3, .int .i64 a4, .int .i64 a5]) := ⟨Blk.step blk hk⟩
  replace HC : Aside0 (Blk w4 (w3.heap.size) 68 #[.float .f64 c1, .int .i64 c2, .int .i64 c3, .int .i64 c4, .int .i64 c5]) := ⟨Blk.step blk hk⟩
  replace HB := Aside0.mk (below_step bel hk)
  have hsw4 := hk.size
  try simp at hsw4
  clear hk
  obtain ⟨cA0, cA1, cA2, cA3, cA4, fA⟩ := HA.out.c5
  obtain ⟨cU0, cU1, cU2, cU3, cU4, fU⟩ := HU.out.c5
  obtain ⟨cC0, cC1, cC2, cC3, cC4, fC⟩ := HC.out.c5
  have nAw4 : w1.heap.size < w4.heap.size := by omega
  have uAw4 : ¬ w1.heap.size = w4.heap.size := by omega
  have nUw4 : w2.heap.size < w4.heap.size := by omega
  have uUw4 : ¬ w2.heap.size = w4.heap.size := by omega
  have nCw4 : w3.heap.size < w4.heap.size := by omega
  have uCw4 : ¬ w3.heap.size = w4.heap.size := by omega
  have HD := Aside0.mk (Blk.new w4 68 #[.float .f64 c1, .int .i64 c2, .int .i64 c3, .int .i64 c4, .int .i64 c5])
  go_wp2_with fail
  clear cA0 cA1 cA2 cA3 cA4 fA cU0 cU1 cU2 cU3 cU4 fU cC0 cC1 cC2 cC3 cC4 fC
  refine (same64_calls _ _ _ _ _ _).mono ?_
  rintro e w5 ⟨rfl, hk⟩
  replace HA : Aside0 (Blk w5 (w1.heap.size) 68 #[.float .f64 a1, .int .i64 a2, .int .i64 a3, .int .i64 a4, .int .i64 a5]) := ⟨Blk.step blk hk⟩
  replace HU : Aside0 (Blk w5 (w2.heap.size) 68 #[.float .f64 a1, .int .i64 a2, .int .i64 a3, .int .i64 a4, .int .i64 a5]) := ⟨Blk.step blk hk⟩
  replace HC : Aside0 (Blk w5 (w3.heap.size) 68 #[.float .f64 c1, .int .i64 c2, .int .i64 c3, .int .i64 c4, .int .i64 c5]) := ⟨Blk.step blk hk⟩
  replace HD : Aside0 (Blk w5 (w4.heap.size) 68 #[.float .f64 c1, .int .i64 c2, .int .i64 c3, .int .i64 c4, .int .i64 c5]) := ⟨Blk.step blk hk⟩
  replace HB := Aside0.mk (below_step bel hk)
  have hsw5 := hk.size
  try simp at hsw5
  clear hk
  obtain ⟨cA0, cA1, cA2, cA3, cA4, fA⟩ := HA.out.c5
  obtain ⟨cU0, cU1, cU2, cU3, cU4, fU⟩ := HU.out.c5
  obtain ⟨cC0, cC1, cC2, cC3, cC4, fC⟩ := HC.out.c5
  obtain ⟨cD0, cD1, cD2, cD3, cD4, fD⟩ := HD.out.c5
  have nAw5 : w1.heap.size < w5.heap.size := by omega
  have uAw5 : ¬ w1.heap.size = w5.heap.size := by omega
  have nUw5 : w2.heap.size < w5.heap.size := by omega
  have uUw5 : ¬ w2.heap.size = w5.heap.size := by omega
  have nCw5 : w3.heap.size < w5.heap.size := by omega
  have uCw5 : ¬ w3.heap.size = w5.heap.size := by omega
  have nDw5 : w4.heap.size < w5.heap.size := by omega
  have uDw5 : ¬ w4.heap.size = w5.heap.size := by omega
  go_wp2_with fail
  clear cA0 cA1 cA2 cA3 cA4 fA cU0 cU1 cU2 cU3 cU4 fU cC0 cC1 cC2 cC3 cC4 fC cD0 cD1 cD2 cD3 cD4 fD
  clear HA
  clear HU
  refine (same64_calls _ _ _ _ _ _).mono ?_
  rintro e w6 ⟨rfl, hk⟩
  replace HC : Aside0 (Blk w6 (w3.heap.size) 68 #[.float .f64 c1, .int .i64 c2, .int .i64 c3, .int .i64 c4, .int .i64 c5]) := ⟨Blk.step blk hk⟩
  replace HD : Aside0 (Blk w6 (w4.heap.size) 68 #[.float .f64 c1, .int .i64 c2, .int .i64 c3, .int .i64 c4, .int .i64 c5]) := ⟨Blk.step blk hk⟩
  replace HB := Aside0.mk (below_step bel hk)
  have hsw6 := hk.size
  try simp at hsw6
  clear hk
  obtain ⟨cC0, cC1, cC2, cC3, cC4, fC⟩ := HC.out.c5
  obtain ⟨cD0, cD1, cD2, cD3, cD4, fD⟩ := HD.out.c5
  have nCw6 : w3.heap.size < w6.heap.size := by omega
  have uCw6 : ¬ w3.heap.size = w6.heap.size := by omega
  have nDw6 : w4.heap.size < w6.heap.size := by omega
  have uDw6 : ¬ w4.heap.size = w6.heap.size := by omega
  go_wp2_with fail
  clear cC0 cC1 cC2 cC3 cC4 fC cD0 cD1 cD2 cD3 cD4 fD
  clear HC
  clear HD
  refine (RecF.awake_calls _).mono ?_
  rintro e w7 ⟨rfl, hk⟩
  replace HB := Aside0.mk (below_step bel hk)
  have hsw7 := hk.size
  try simp at hsw7
  clear hk
  go_wp2_with fail
  refine (CM.out _).mono ?_
  rintro e w8 ⟨rfl, hk⟩
  replace HB := Aside0.mk (below_step bel hk)
  have hsw8 := hk.size
  try simp at hsw8
  clear hk
  have HM := Aside0.mk (Blk.new w8 77 #[.float .f64 y1, .int .i64 y2, .int .i64 y3, .int .i64 y4, .int .i64 y5, .bool (B0 == 1)])
  go_wp2_with fail
  refine (CX.out _).mono ?_
  rintro e w9 ⟨rfl, hk⟩
  replace HM : Aside0 (Blk w9 (w8.heap.size) 77 #[.float .f64 y1, .int .i64 y2, .int .i64 y3, .int .i64 y4, .int .i64 y5, .bool (B0 == 1)]) := ⟨Blk.step blk hk⟩
  replace HB := Aside0.mk (below_step bel hk)
  have hsw9 := hk.size
  try simp at hsw9
  clear hk
  obtain ⟨cM0, cM1, cM2, cM3, cM4, cM5, fM⟩ := HM.out.c6
  have nMw9 : w8.heap.size < w9.heap.size := by omega
  have uMw9 : ¬ w8.heap.size = w9.heap.size := by omega
  have HX := Aside0.mk (Blk.new w9 73 #[.float .f64 x1, .int .i64 x2, .int .i64 x3, .int .i64 x4, .int .i64 x5, .int .i64 xf])
  go_wp2_with fail
  clear cM0 cM1 cM2 cM3 cM4 cM5 fM
  refine (CY.out _).mono ?_
  rintro e w10 ⟨rfl, hk⟩
  replace HM : Aside0 (Blk w10 (w8.heap.size) 77 #[.float .f64 y1, .int .i64 y2, .int .i64 y3, .int .i64 y4, .int .i64 y5, .bool (B0 == 1)]) := ⟨Blk.step blk hk⟩
  replace HX : Aside0 (Blk w10 (w9.heap.size) 73 #[.float .f64 x1, .int .i64 x2, .int .i64 x3, .int .i64 x4, .int .i64 x5, .int .i64 xf]) := ⟨Blk.step blk hk⟩
  replace HB := Aside0.mk (below_step bel hk)
  have hsw10 := hk.size
  try simp at hsw10
  clear hk
  obtain ⟨cM0, cM1, cM2, cM3, cM4, cM5, fM⟩ := HM.out.c6
  obtain ⟨cX0, cX1, cX2, cX3, cX4, cX5, fX⟩ := HX.out.c6
  have nMw10 : w8.heap.size < w10.heap.size := by omega
  have uMw10 : ¬ w8.heap.size = w10.heap.size := by omega
  have nXw10 : w9.heap.size < w10.heap.size := by omega
  have uXw10 : ¬ w9.heap.size = w10.heap.size := by omega
  have HY := Aside0.mk (Blk.new w10 68 #[.float .f64 y1, .int .i64 y2, .int .i64 y3, .int .i64 y4, .int .i64 y5])
  go_wp2_with fail
  clear cM0 cM1 cM2 cM3 cM4 cM5 fM cX0 cX1 cX2 cX3 cX4 cX5 fX
  refine (CZ.out _).mono ?_
  rintro e w11 ⟨rfl, hk⟩
  replace HM : Aside0 (Blk w11 (w8.heap.size) 77 #[.float .f64 y1, .int .i64 y2, .int .i64 y3, .int .i64 y4, .int .i64 y5, .bool (B0 == 1)]) := ⟨Blk.step blk hk⟩
  replace HX : Aside0 (Blk w11 (w9.heap.size) 73 #[.float .f64 x1, .int .i64 x2, .int .i64 x3, .int .i64 x4, .int .i64 x5, .int .i64 xf]) := ⟨Blk.step blk hk⟩
  replace HY : Aside0 (Blk w11 (w10.heap.size) 68 #[.float .f64 y1, .int .i64 y2, .int .i64 y3, .int .i64 y4, .int .i64 y5]) := ⟨Blk.step blk hk⟩
  replace HB := Aside0.mk (below_step bel hk)
  have hsw11 := hk.size
  try simp at hsw11
  clear hk
  obtain ⟨cM0, cM1, cM2, cM3, cM4, cM5, fM⟩ := HM.out.c6
  obtain ⟨cX0, cX1, cX2, cX3, cX4, cX5, fX⟩ := HX.out.c6
  obtain ⟨cY0, cY1, cY2, cY3, cY4, fY⟩ := HY.out.c5
  have nMw11 : w8.heap.size < w11.heap.size := by omega
  have uMw11 : ¬ w8.heap.size = w11.heap.size := by omega
  have nXw11 : w9.heap.size < w11.heap.size := by omega
  have uXw11 : ¬ w9.heap.size = w11.heap.size := by omega
  have nYw11 : w10.heap.size < w11.heap.size := by omega
  have uYw11 : ¬ w10.heap.size = w11.heap.size := by omega
  have HZ := Aside0.mk (Blk.new w11 68 #[.float .f64 z1, .int .i64 z2, .int .i64 z3, .int .i64 z4, .int .i64 z5])
  go_wp2_with fail
  refine wp_region_noPanic ?_
  refine wp_region_held_drew (S := (fun w' => w'.cell? ⟨w8.heap.size, 0, none⟩ = some (.float .f64 y1) ∧ w'.cell? ⟨w8.heap.size, 1, none⟩ = some (.int .i64 y2) ∧ w'.cell? ⟨w8.heap.size, 2, none⟩ = some (.int .i64 y3) ∧ w'.cell? ⟨w8.heap.size, 3, none⟩ = some (.int .i64 y4) ∧ w'.cell? ⟨w8.heap.size, 4, none⟩ = some (.int .i64 y5) ∧ w'.cell? ⟨w8.heap.size, 5, none⟩ = some (.bool (B0 == 1)) ∧ w'.cell? ⟨w10.heap.size, 0, none⟩ = some (.float .f64 y1) ∧ w'.cell? ⟨w10.heap.size, 1, none⟩ = some (.int .i64 y2) ∧ w'.cell? ⟨w10.heap.size, 2, none⟩ = some (.int .i64 y3) ∧ w'.cell? ⟨w10.heap.size, 3, none⟩ = some (.int .i64 y4) ∧ w'.cell? ⟨w10.heap.size, 4, none⟩ = some (.int .i64 y5))) (by kernel_rfl) (by refine ⟨?_, ?_, ?_, ?_, ?_, ?_, ?_, ?_, ?_, ?_, ?_⟩ <;> first | assumption | (go_keep; done) | (go_simp; done) | (simp; omega)) (fun hHeld => ?_)
  change wpAnyH _ _ _ _ _ 17 _ _ _
  refine Rg.tk (fuel := 16) 0 ?_
  refine Rg.tk (fuel := 15) 1 ?_
  refine Rg.tk (fuel := 14) 2 ?_
  refine Rg.tk (fuel := 13) 3 ?_
  refine Rg.tk (fuel := 12) 4 ?_
  refine Rg.tk (fuel := 11) 5 ?_
  refine wpAnyH_ready (fuel := 10) (rs := [6]) (by kernel_rfl) (by simp) ?_
  refine AllReadyH.cons rfl (fun K hK => ?_) ?_
  · go_simp
    refine (same64_calls _ _ _ _ _ _).mono ?_
    rintro e w12 ⟨rfl, hk⟩
    replace HM : Aside0 (Blk w12 (w8.heap.size) 77 #[.float .f64 y1, .int .i64 y2, .int .i64 y3, .int .i64 y4, .int .i64 y5, .bool (B0 == 1)]) := ⟨Blk.step blk hk⟩
    replace HX : Aside0 (Blk w12 (w9.heap.size) 73 #[.float .f64 x1, .int .i64 x2, .int .i64 x3, .int .i64 x4, .int .i64 x5, .int .i64 xf]) := ⟨Blk.step blk hk⟩
    replace HY : Aside0 (Blk w12 (w10.heap.size) 68 #[.float .f64 y1, .int .i64 y2, .int .i64 y3, .int .i64 y4, .int .i64 y5]) := ⟨Blk.step blk hk⟩
    replace HZ : Aside0 (Blk w12 (w11.heap.size) 68 #[.float .f64 z1, .int .i64 z2, .int .i64 z3, .int .i64 z4, .int .i64 z5]) := ⟨Blk.step blk hk⟩
    replace HB := Aside0.mk (below_step bel hk)
    have hsw12 := hk.size
    try simp at hsw12
    clear hk
    obtain ⟨cM0, cM1, cM2, cM3, cM4, cM5, fM⟩ := HM.out.c6
    obtain ⟨cX0, cX1, cX2, cX3, cX4, cX5, fX⟩ := HX.out.c6
    obtain ⟨cY0, cY1, cY2, cY3, cY4, fY⟩ := HY.out.c5
    obtain ⟨cZ0, cZ1, cZ2, cZ3, cZ4, fZ⟩ := HZ.out.c5
    go_wp2_with fail
    refine hK.out _ _ (by refine ⟨?_, ?_, ?_, ?_, ?_, ?_, ?_, ?_, ?_, ?_, ?_⟩ <;> first | assumption | (go_keep; done) | (go_simp; done) | (simp; omega)) (fun hHeld => ?_)
    clear hK K
    try simp only [Act.put, List.setIfInBounds_toArray, List.set_cons_zero, List.set_cons_succ]
    refine Rg.tk (fuel := 9) 7 ?_
    refine Rg.tk (fuel := 8) 8 ?_
    refine Rg.tk (fuel := 7) 9 ?_
    refine Rg.tk (fuel := 6) 10 ?_
    refine Rg.tk (fuel := 5) 11 ?_
    refine Rg.tk (fuel := 4) 12 ?_
    refine Rg.tk (fuel := 3) 13 ?_
    refine Rg.tk (fuel := 2) 14 ?_
    refine Rg.tk (fuel := 1) 15 ?_
    refine Rg.tk (fuel := 0) 16 ?_
    refine wpAnyH_done (by kernel_rfl) ?_ _
    refine NoPanic.normal ?_
    go_wp2_with fail
    go_ret
    exact ⟨rfl, bel⟩
  exact AllReadyH.nil


set_option maxRecDepth 100000 in
set_option maxHeartbeats 8000000 in
theorem walk_ok_g (s : ByteArray) (dst e g k l : Int) (a1 c1 m1 x1 y1 z1 : Nat) (a2 a3 a4 a5 c2 c3 c4 c5 m2 m3 m4 m5 x2 x3 x4 x5 xf y2 y3 y4 y5 z2 z3 z4 z5 : Int) (mb : Bool) (w : World) (hs : s.size = 27)
    (CA : Aside0 (Gives 61 #[.string s] (.tuple #[.agg #[.float .f64 a1, .int .i64 a2, .int .i64 a3, .int .i64 a4, .int .i64 a5], .int .i64 e]))) (CB : Aside0 (Gives 77 #[.string s] (.tuple #[.agg #[.float .f64 a1, .int .i64 a2, .int .i64 a3, .int .i64 a4, .int .i64 a5], .int .i64 e])))
    (CC : Aside0 (Gives 78 #[.string s, .int .i64 dst] (.tuple #[.agg #[.float .f64 c1, .int .i64 c2, .int .i64 c3, .int .i64 c4, .int .i64 c5], .int .i64 g]))) (CD : Aside0 (Gives 79 #[.string s, .int .i64 dst] (.tuple #[.agg #[.float .f64 c1, .int .i64 c2, .int .i64 c3, .int .i64 c4, .int .i64 c5], .int .i64 g])))
    (CM : Aside0 (Gives 62 #[.string s] (.tuple #[.agg #[.float .f64 y1, .int .i64 y2, .int .i64 y3, .int .i64 y4, .int .i64 y5, .bool (bt s 0 == 1)], .int .i64 0]))) (CX : Aside0 (Gives 63 #[.string s] (.tuple #[.agg #[.float .f64 x1, .int .i64 x2, .int .i64 x3, .int .i64 x4, .int .i64 x5, .int .i64 xf], .int .i64 6])))
    (CY : Aside0 (Gives 77 #[.string (s.extract 1 s.size)] (.tuple #[.agg #[.float .f64 y1, .int .i64 y2, .int .i64 y3, .int .i64 y4, .int .i64 y5], .int .i64 0]))) (CZ : Aside0 (Gives 77 #[.string (s.extract 0 26)] (.tuple #[.agg #[.float .f64 z1, .int .i64 z2, .int .i64 z3, .int .i64 z4, .int .i64 z5], .int .i64 0])))
    (h0 : decide (1 < bt s 0) = false) (h26 : decide (7 < bt s 26) = true) :
    Calls Try.prog 21 #[.string s, .int .i64 dst] w fun e w' => e = .returned (.bool true) ∧ Below w.heap.size w w' := by
  have HB := Aside0.mk (Below.refl w.heap.size w)
  have hu2 := Try.underlying42
  have hu3 := Try.underlying68
  have hu4 := Try.underlying73
  have hu5 := Try.underlying77
  have e1 : ∀ W : World, (Instr.slice 9 (.string s) (some (.int .i64 1)) none none).run Try.prog W = .ok (.string (s.extract 1 s.size)) W := fun W => Go.run_slice_string_l (P := Try.prog) W 9 s Try.underlying9 .i64 1 (by omega) (by omega)
  have e2 : ∀ W : World, (Instr.slice 9 (.string s) none (some (.int .i64 26)) none).run Try.prog W = .ok (.string (s.extract 0 26)) W := fun W => Go.run_slice_string_h (P := Try.prog) W 9 s Try.underlying9 .i64 26 (by omega) (by omega)
  have ei0 := run_bt s 0 (by decide) (by omega)
  have ei1 := run_bt s 26 (by decide) (by omega)
  have hb0 := bt_range s 0
  have hb1 := bt_range s 26
  generalize bt s 0 = B0 at *
  generalize bt s 26 = B1 at *
  have hw1 : IntKind.i64.wrap B1 = B1 := by rw [IntKind.wrap_i64]; omega
  clear hb0 hb1
  generalize s.extract 1 s.size = Y1 at *
  generalize s.extract 0 26 = Y2 at *
  go_enter Try.func21, Try.ntmps21
  go_wp2_with fail
  refine (CA.out _).mono ?_
  rintro e w1 ⟨rfl, hk⟩
  replace HB := Aside0.mk (below_step bel hk)
  have hsw1 := hk.size
  try simp at hsw1
  clear hk
  have HA := Aside0.mk (Blk.new w1 68 #[.float .f64 a1, .int .i64 a2, .int .i64 a3, .int .i64 a4, .int .i64 a5])
  go_wp2_with fail
  refine (CB.out _).mono ?_
  rintro e w2 ⟨rfl, hk⟩
  replace HA : Aside0 (Blk w2 (w1.heap.size) 68 #[.float .f64 a1, .int .i64 a2, .int .i64 a3, .int .i64 a4, .int .i64 a5]) := ⟨Blk.step blk hk⟩
  replace HB := Aside0.mk (below_step bel hk)
  have hsw2 := hk.size
  try simp at hsw2
  clear hk
  obtain ⟨cA0, cA1, cA2, cA3, cA4, fA⟩ := HA.out.c5
  have nAw2 : w1.heap.size < w2.heap.size := by omega
  have uAw2 : ¬ w1.heap.size = w2.heap.size := by omega
  have HU := Aside0.mk (Blk.new w2 68 #[.float .f64 a1, .int .i64 a2, .int .i64 a3, .int .i64 a4, .int .i64 a5])
  go_wp2_with fail
  clear cA0 cA1 cA2 cA3 cA4 fA
  refine (CC.out _).mono ?_
  rintro e w3 ⟨rfl, hk⟩
  replace HA : Aside0 (Blk w3 (w1.heap.size) 68 #[.float .f64 a1, .int .i64 a2, .int .i64 a3, .int .i64 a4, .int .i64 a5]) := ⟨Blk.step blk hk⟩
  replace HU : Aside0 (Blk w3 (w2.heap.size) 68 #[.float .f64 a1, .int .i64 a2, .int .i64 a3, .int .i64 a4, .int .i64 a5]) := ⟨Blk.step blk hk⟩
  replace HB := Aside0.mk (below_step bel hk)
  have hsw3 := hk.size
  try simp at hsw3
  clear hk
  obtain ⟨cA0, cA1, cA2, cA3, cA4, fA⟩ := HA.out.c5
  obtain ⟨cU0, cU1, cU2, cU3, cU4, fU⟩ := HU.out.c5
  have nAw3 : w1.heap.size < w3.heap.size := by omega
  have uAw3 : ¬ w1.heap.size = w3.heap.size := by omega
  have nUw3 : w2.heap.size < w3.heap.size := by omega
  have uUw3 : ¬ w2.heap.size = w3.heap.size := by omega
  have HC := Aside0.mk (Blk.new w3 68 #[.float .f64 c1, .int .i64 c2, .int .i64 c3, .int .i64 c4, .int .i64 c5])
  go_wp2_with fail
  clear cA0 cA1 cA2 cA3 cA4 fA cU0 cU1 cU2 cU3 cU4 fU
  refine (CD.out _).mono ?_
  rintro e w4 ⟨rfl, hk⟩
  replace HA : Aside0 (Blk w4 (w1.heap.size) 68 #[.float .f64 a1, .int .i64 a2, .int .i64 a3, .int .i64 a4, .int .i64 a5]) := ⟨Blk.step blk hk⟩
  replace HU : Aside0 (Blk w4 (w2.heap.size) 68 #[.float .f64 a1, .int .i64 a2, .int .i64 a3, .int .i64 a4, .int .i64 a5]) := ⟨Blk.step blk hk⟩
  replace HC : Aside0 (Blk w4 (w3.heap.size) 68 #[.float .f64 c1, .int .i64 c2, .int .i64 c3, .int .i64 c4, .int .i64 c5]) := ⟨Blk.step blk hk⟩
  replace HB := Aside0.mk (below_step bel hk)
  have hsw4 := hk.size
  try simp at hsw4
  clear hk
  obtain ⟨cA0, cA1, cA2, cA3, cA4, fA⟩ := HA.out.c5
  obtain ⟨cU0, cU1, cU2, cU3, cU4, fU⟩ := HU.out.c5
  obtain ⟨cC0, cC1, cC2, cC3, cC4, fC⟩ := HC.out.c5
  have nAw4 : w1.heap.size < w4.heap.size := by omega
  have uAw4 : ¬ w1.heap.size = w4.heap.size := by omega
  have nUw4 : w2.heap.size < w4.heap.size := by omega
  have uUw4 : ¬ w2.heap.size = w4.heap.size := by omega
  have nCw4 : w3.heap.size < w4.heap.size := by omega
  have uCw4 : ¬ w3.heap.size = w4.heap.size := by omega
  have HD := Aside0.mk (Blk.new w4 68 #[.float .f64 c1, .int .i64 c2, .int .i64 c3, .int .i64 c4, .int .i64 c5])
  go_wp2_with fail
  clear cA0 cA1 cA2 cA3 cA4 fA cU0 cU1 cU2 cU3 cU4 fU cC0 cC1 cC2 cC3 cC4 fC
  refine (same64_calls _ _ _ _ _ _).mono ?_
  rintro e w5 ⟨rfl, hk⟩
  replace HA : Aside0 (Blk w5 (w1.heap.size) 68 #[.float .f64 a1, .int .i64 a2, .int .i64 a3, .int .i64 a4, .int .i64 a5]) := ⟨Blk.step blk hk⟩
  replace HU : Aside0 (Blk w5 (w2.heap.size) 68 #[.float .f64 a1, .int .i64 a2, .int .i64 a3, .int .i64 a4, .int .i64 a5]) := ⟨Blk.step blk hk⟩
  replace HC : Aside0 (Blk w5 (w3.heap.size) 68 #[.float .f64 c1, .int .i64 c2, .int .i64 c3, .int .i64 c4, .int .i64 c5]) := ⟨Blk.step blk hk⟩
  replace HD : Aside0 (Blk w5 (w4.heap.size) 68 #[.float .f64 c1, .int .i64 c2, .int .i64 c3, .int .i64 c4, .int .i64 c5]) := ⟨Blk.step blk hk⟩
  replace HB := Aside0.mk (below_step bel hk)
  have hsw5 := hk.size
  try simp at hsw5
  clear hk
  obtain ⟨cA0, cA1, cA2, cA3, cA4, fA⟩ := HA.out.c5
  obtain ⟨cU0, cU1, cU2, cU3, cU4, fU⟩ := HU.out.c5
  obtain ⟨cC0, cC1, cC2, cC3, cC4, fC⟩ := HC.out.c5
  obtain ⟨cD0, cD1, cD2, cD3, cD4, fD⟩ := HD.out.c5
  have nAw5 : w1.heap.size < w5.heap.size := by omega
  have uAw5 : ¬ w1.heap.size = w5.heap.size := by omega
  have nUw5 : w2.heap.size < w5.heap.size := by omega
  have uUw5 : ¬ w2.heap.size = w5.heap.size := by omega
  have nCw5 : w3.heap.size < w5.heap.size := by omega
  have uCw5 : ¬ w3.heap.size = w5.heap.size := by omega
  have nDw5 : w4.heap.size < w5.heap.size := by omega
  have uDw5 : ¬ w4.heap.size = w5.heap.size := by omega
  go_wp2_with fail
  clear cA0 cA1 cA2 cA3 cA4 fA cU0 cU1 cU2 cU3 cU4 fU cC0 cC1 cC2 cC3 cC4 fC cD0 cD1 cD2 cD3 cD4 fD
  clear HA
  clear HU
  refine (same64_calls _ _ _ _ _ _).mono ?_
  rintro e w6 ⟨rfl, hk⟩
  replace HC : Aside0 (Blk w6 (w3.heap.size) 68 #[.float .f64 c1, .int .i64 c2, .int .i64 c3, .int .i64 c4, .int .i64 c5]) := ⟨Blk.step blk hk⟩
  replace HD : Aside0 (Blk w6 (w4.heap.size) 68 #[.float .f64 c1, .int .i64 c2, .int .i64 c3, .int .i64 c4, .int .i64 c5]) := ⟨Blk.step blk hk⟩
  replace HB := Aside0.mk (below_step bel hk)
  have hsw6 := hk.size
  try simp at hsw6
  clear hk
  obtain ⟨cC0, cC1, cC2, cC3, cC4, fC⟩ := HC.out.c5
  obtain ⟨cD0, cD1, cD2, cD3, cD4, fD⟩ := HD.out.c5
  have nCw6 : w3.heap.size < w6.heap.size := by omega
  have uCw6 : ¬ w3.heap.size = w6.heap.size := by omega
  have nDw6 : w4.heap.size < w6.heap.size := by omega
  have uDw6 : ¬ w4.heap.size = w6.heap.size := by omega
  go_wp2_with fail
  clear cC0 cC1 cC2 cC3 cC4 fC cD0 cD1 cD2 cD3 cD4 fD
  clear HC
  clear HD
  refine (RecF.awake_calls _).mono ?_
  rintro e w7 ⟨rfl, hk⟩
  replace HB := Aside0.mk (below_step bel hk)
  have hsw7 := hk.size
  try simp at hsw7
  clear hk
  go_wp2_with fail
  refine (CM.out _).mono ?_
  rintro e w8 ⟨rfl, hk⟩
  replace HB := Aside0.mk (below_step bel hk)
  have hsw8 := hk.size
  try simp at hsw8
  clear hk
  have HM := Aside0.mk (Blk.new w8 77 #[.float .f64 y1, .int .i64 y2, .int .i64 y3, .int .i64 y4, .int .i64 y5, .bool (B0 == 1)])
  go_wp2_with fail
  refine (CX.out _).mono ?_
  rintro e w9 ⟨rfl, hk⟩
  replace HM : Aside0 (Blk w9 (w8.heap.size) 77 #[.float .f64 y1, .int .i64 y2, .int .i64 y3, .int .i64 y4, .int .i64 y5, .bool (B0 == 1)]) := ⟨Blk.step blk hk⟩
  replace HB := Aside0.mk (below_step bel hk)
  have hsw9 := hk.size
  try simp at hsw9
  clear hk
  obtain ⟨cM0, cM1, cM2, cM3, cM4, cM5, fM⟩ := HM.out.c6
  have nMw9 : w8.heap.size < w9.heap.size := by omega
  have uMw9 : ¬ w8.heap.size = w9.heap.size := by omega
  have HX := Aside0.mk (Blk.new w9 73 #[.float .f64 x1, .int .i64 x2, .int .i64 x3, .int .i64 x4, .int .i64 x5, .int .i64 xf])
  go_wp2_with fail
  clear cM0 cM1 cM2 cM3 cM4 cM5 fM
  refine (CY.out _).mono ?_
  rintro e w10 ⟨rfl, hk⟩
  replace HM : Aside0 (Blk w10 (w8.heap.size) 77 #[.float .f64 y1, .int .i64 y2, .int .i64 y3, .int .i64 y4, .int .i64 y5, .bool (B0 == 1)]) := ⟨Blk.step blk hk⟩
  replace HX : Aside0 (Blk w10 (w9.heap.size) 73 #[.float .f64 x1, .int .i64 x2, .int .i64 x3, .int .i64 x4, .int .i64 x5, .int .i64 xf]) := ⟨Blk.step blk hk⟩
  replace HB := Aside0.mk (below_step bel hk)
  have hsw10 := hk.size
  try simp at hsw10
  clear hk
  obtain ⟨cM0, cM1, cM2, cM3, cM4, cM5, fM⟩ := HM.out.c6
  obtain ⟨cX0, cX1, cX2, cX3, cX4, cX5, fX⟩ := HX.out.c6
  have nMw10 : w8.heap.size < w10.heap.size := by omega
  have uMw10 : ¬ w8.heap.size = w10.heap.size := by omega
  have nXw10 : w9.heap.size < w10.heap.size := by omega
  have uXw10 : ¬ w9.heap.size = w10.heap.size := by omega
  have HY := Aside0.mk (Blk.new w10 68 #[.float .f64 y1, .int .i64 y2, .int .i64 y3, .int .i64 y4, .int .i64 y5])
  go_wp2_with fail
  clear cM0 cM1 cM2 cM3 cM4 cM5 fM cX0 cX1 cX2 cX3 cX4 cX5 fX
  refine (CZ.out _).mono ?_
  rintro e w11 ⟨rfl, hk⟩
  replace HM : Aside0 (Blk w11 (w8.heap.size) 77 #[.float .f64 y1, .int .i64 y2, .int .i64 y3, .int .i64 y4, .int .i64 y5, .bool (B0 == 1)]) := ⟨Blk.step blk hk⟩
  replace HX : Aside0 (Blk w11 (w9.heap.size) 73 #[.float .f64 x1, .int .i64 x2, .int .i64 x3, .int .i64 x4, .int .i64 x5, .int .i64 xf]) := ⟨Blk.step blk hk⟩
  replace HY : Aside0 (Blk w11 (w10.heap.size) 68 #[.float .f64 y1, .int .i64 y2, .int .i64 y3, .int .i64 y4, .int .i64 y5]) := ⟨Blk.step blk hk⟩
  replace HB := Aside0.mk (below_step bel hk)
  have hsw11 := hk.size
  try simp at hsw11
  clear hk
  obtain ⟨cM0, cM1, cM2, cM3, cM4, cM5, fM⟩ := HM.out.c6
  obtain ⟨cX0, cX1, cX2, cX3, cX4, cX5, fX⟩ := HX.out.c6
  obtain ⟨cY0, cY1, cY2, cY3, cY4, fY⟩ := HY.out.c5
  have nMw11 : w8.heap.size < w11.heap.size := by omega
  have uMw11 : ¬ w8.heap.size = w11.heap.size := by omega
  have nXw11 : w9.heap.size < w11.heap.size := by omega
  have uXw11 : ¬ w9.heap.size = w11.heap.size := by omega
  have nYw11 : w10.heap.size < w11.heap.size := by omega
  have uYw11 : ¬ w10.heap.size = w11.heap.size := by omega
  have HZ := Aside0.mk (Blk.new w11 68 #[.float .f64 z1, .int .i64 z2, .int .i64 z3, .int .i64 z4, .int .i64 z5])
  go_wp2_with fail
  refine wp_region_noPanic ?_
  refine wp_region_held_drew (S := (fun w' => w'.cell? ⟨w8.heap.size, 0, none⟩ = some (.float .f64 y1) ∧ w'.cell? ⟨w8.heap.size, 1, none⟩ = some (.int .i64 y2) ∧ w'.cell? ⟨w8.heap.size, 2, none⟩ = some (.int .i64 y3) ∧ w'.cell? ⟨w8.heap.size, 3, none⟩ = some (.int .i64 y4) ∧ w'.cell? ⟨w8.heap.size, 4, none⟩ = some (.int .i64 y5) ∧ w'.cell? ⟨w8.heap.size, 5, none⟩ = some (.bool (B0 == 1)) ∧ w'.cell? ⟨w10.heap.size, 0, none⟩ = some (.float .f64 y1) ∧ w'.cell? ⟨w10.heap.size, 1, none⟩ = some (.int .i64 y2) ∧ w'.cell? ⟨w10.heap.size, 2, none⟩ = some (.int .i64 y3) ∧ w'.cell? ⟨w10.heap.size, 3, none⟩ = some (.int .i64 y4) ∧ w'.cell? ⟨w10.heap.size, 4, none⟩ = some (.int .i64 y5))) (by kernel_rfl) (by refine ⟨?_, ?_, ?_, ?_, ?_, ?_, ?_, ?_, ?_, ?_, ?_⟩ <;> first | assumption | (go_keep; done) | (go_simp; done) | (simp; omega)) (fun hHeld => ?_)
  change wpAnyH _ _ _ _ _ 17 _ _ _
  refine Rg.tk (fuel := 16) 0 ?_
  refine Rg.tk (fuel := 15) 1 ?_
  refine Rg.tk (fuel := 14) 2 ?_
  refine Rg.tk (fuel := 13) 3 ?_
  refine Rg.tk (fuel := 12) 4 ?_
  refine Rg.tk (fuel := 11) 5 ?_
  refine wpAnyH_ready (fuel := 10) (rs := [6]) (by kernel_rfl) (by simp) ?_
  refine AllReadyH.cons rfl (fun K hK => ?_) ?_
  · go_simp
    refine (same64_calls _ _ _ _ _ _).mono ?_
    rintro e w12 ⟨rfl, hk⟩
    replace HM : Aside0 (Blk w12 (w8.heap.size) 77 #[.float .f64 y1, .int .i64 y2, .int .i64 y3, .int .i64 y4, .int .i64 y5, .bool (B0 == 1)]) := ⟨Blk.step blk hk⟩
    replace HX : Aside0 (Blk w12 (w9.heap.size) 73 #[.float .f64 x1, .int .i64 x2, .int .i64 x3, .int .i64 x4, .int .i64 x5, .int .i64 xf]) := ⟨Blk.step blk hk⟩
    replace HY : Aside0 (Blk w12 (w10.heap.size) 68 #[.float .f64 y1, .int .i64 y2, .int .i64 y3, .int .i64 y4, .int .i64 y5]) := ⟨Blk.step blk hk⟩
    replace HZ : Aside0 (Blk w12 (w11.heap.size) 68 #[.float .f64 z1, .int .i64 z2, .int .i64 z3, .int .i64 z4, .int .i64 z5]) := ⟨Blk.step blk hk⟩
    replace HB := Aside0.mk (below_step bel hk)
    have hsw12 := hk.size
    try simp at hsw12
    clear hk
    obtain ⟨cM0, cM1, cM2, cM3, cM4, cM5, fM⟩ := HM.out.c6
    obtain ⟨cX0, cX1, cX2, cX3, cX4, cX5, fX⟩ := HX.out.c6
    obtain ⟨cY0, cY1, cY2, cY3, cY4, fY⟩ := HY.out.c5
    obtain ⟨cZ0, cZ1, cZ2, cZ3, cZ4, fZ⟩ := HZ.out.c5
    go_wp2_with fail
    refine hK.out _ _ (by refine ⟨?_, ?_, ?_, ?_, ?_, ?_, ?_, ?_, ?_, ?_, ?_⟩ <;> first | assumption | (go_keep; done) | (go_simp; done) | (simp; omega)) (fun hHeld => ?_)
    clear hK K
    try simp only [Act.put, List.setIfInBounds_toArray, List.set_cons_zero, List.set_cons_succ]
    refine Rg.tk (fuel := 9) 7 ?_
    refine Rg.tk (fuel := 8) 8 ?_
    refine Rg.tk (fuel := 7) 9 ?_
    refine Rg.tk (fuel := 6) 10 ?_
    refine Rg.tk (fuel := 5) 11 ?_
    refine Rg.tk (fuel := 4) 12 ?_
    refine Rg.tk (fuel := 3) 13 ?_
    refine Rg.tk (fuel := 2) 14 ?_
    refine Rg.tk (fuel := 1) 15 ?_
    refine Rg.tk (fuel := 0) 16 ?_
    refine wpAnyH_done (by kernel_rfl) ?_ _
    refine NoPanic.normal ?_
    go_wp2_with fail
    go_ret
    exact ⟨rfl, bel⟩
  exact AllReadyH.nil


set_option maxRecDepth 100000 in
set_option maxHeartbeats 8000000 in
theorem walk_ok_ok (s : ByteArray) (dst e g k l : Int) (a1 c1 m1 x1 y1 z1 : Nat) (a2 a3 a4 a5 c2 c3 c4 c5 m2 m3 m4 m5 x2 x3 x4 x5 xf y2 y3 y4 y5 z2 z3 z4 z5 : Int) (mb : Bool) (w : World) (hs : s.size = 27)
    (CA : Aside0 (Gives 61 #[.string s] (.tuple #[.agg #[.float .f64 a1, .int .i64 a2, .int .i64 a3, .int .i64 a4, .int .i64 a5], .int .i64 e]))) (CB : Aside0 (Gives 77 #[.string s] (.tuple #[.agg #[.float .f64 a1, .int .i64 a2, .int .i64 a3, .int .i64 a4, .int .i64 a5], .int .i64 e])))
    (CC : Aside0 (Gives 78 #[.string s, .int .i64 dst] (.tuple #[.agg #[.float .f64 c1, .int .i64 c2, .int .i64 c3, .int .i64 c4, .int .i64 c5], .int .i64 g]))) (CD : Aside0 (Gives 79 #[.string s, .int .i64 dst] (.tuple #[.agg #[.float .f64 c1, .int .i64 c2, .int .i64 c3, .int .i64 c4, .int .i64 c5], .int .i64 g])))
    (CM : Aside0 (Gives 62 #[.string s] (.tuple #[.agg #[.float .f64 y1, .int .i64 y2, .int .i64 y3, .int .i64 y4, .int .i64 y5, .bool (bt s 0 == 1)], .int .i64 0]))) (CX : Aside0 (Gives 63 #[.string s] (.tuple #[.agg #[.float .f64 z1, .int .i64 z2, .int .i64 z3, .int .i64 z4, .int .i64 z5, .int .i64 (bt s 26)], .int .i64 0])))
    (CY : Aside0 (Gives 77 #[.string (s.extract 1 s.size)] (.tuple #[.agg #[.float .f64 y1, .int .i64 y2, .int .i64 y3, .int .i64 y4, .int .i64 y5], .int .i64 0]))) (CZ : Aside0 (Gives 77 #[.string (s.extract 0 26)] (.tuple #[.agg #[.float .f64 z1, .int .i64 z2, .int .i64 z3, .int .i64 z4, .int .i64 z5], .int .i64 0])))
    (h0 : decide (1 < bt s 0) = false) (h26 : decide (7 < bt s 26) = false) :
    Calls Try.prog 21 #[.string s, .int .i64 dst] w fun e w' => e = .returned (.bool true) ∧ Below w.heap.size w w' := by
  have HB := Aside0.mk (Below.refl w.heap.size w)
  have hu2 := Try.underlying42
  have hu3 := Try.underlying68
  have hu4 := Try.underlying73
  have hu5 := Try.underlying77
  have e1 : ∀ W : World, (Instr.slice 9 (.string s) (some (.int .i64 1)) none none).run Try.prog W = .ok (.string (s.extract 1 s.size)) W := fun W => Go.run_slice_string_l (P := Try.prog) W 9 s Try.underlying9 .i64 1 (by omega) (by omega)
  have e2 : ∀ W : World, (Instr.slice 9 (.string s) none (some (.int .i64 26)) none).run Try.prog W = .ok (.string (s.extract 0 26)) W := fun W => Go.run_slice_string_h (P := Try.prog) W 9 s Try.underlying9 .i64 26 (by omega) (by omega)
  have ei0 := run_bt s 0 (by decide) (by omega)
  have ei1 := run_bt s 26 (by decide) (by omega)
  have hb0 := bt_range s 0
  have hb1 := bt_range s 26
  generalize bt s 0 = B0 at *
  generalize bt s 26 = B1 at *
  have hw1 : IntKind.i64.wrap B1 = B1 := by rw [IntKind.wrap_i64]; omega
  clear hb0 hb1
  generalize s.extract 1 s.size = Y1 at *
  generalize s.extract 0 26 = Y2 at *
  go_enter Try.func21, Try.ntmps21
  go_wp2_with fail
  refine (CA.out _).mono ?_
  rintro e w1 ⟨rfl, hk⟩
  replace HB := Aside0.mk (below_step bel hk)
  have hsw1 := hk.size
  try simp at hsw1
  clear hk
  have HA := Aside0.mk (Blk.new w1 68 #[.float .f64 a1, .int .i64 a2, .int .i64 a3, .int .i64 a4, .int .i64 a5])
  go_wp2_with fail
  refine (CB.out _).mono ?_
  rintro e w2 ⟨rfl, hk⟩
  replace HA : Aside0 (Blk w2 (w1.heap.size) 68 #[.float .f64 a1, .int .i64 a2, .int .i64 a3, .int .i64 a4, .int .i64 a5]) := ⟨Blk.step blk hk⟩
  replace HB := Aside0.mk (below_step bel hk)
  have hsw2 := hk.size
  try simp at hsw2
  clear hk
  obtain ⟨cA0, cA1, cA2, cA3, cA4, fA⟩ := HA.out.c5
  have nAw2 : w1.heap.size < w2.heap.size := by omega
  have uAw2 : ¬ w1.heap.size = w2.heap.size := by omega
  have HU := Aside0.mk (Blk.new w2 68 #[.float .f64 a1, .int .i64 a2, .int .i64 a3, .int .i64 a4, .int .i64 a5])
  go_wp2_with fail
  clear cA0 cA1 cA2 cA3 cA4 fA
  refine (CC.out _).mono ?_
  rintro e w3 ⟨rfl, hk⟩
  replace HA : Aside0 (Blk w3 (w1.heap.size) 68 #[.float .f64 a1, .int .i64 a2, .int .i64 a3, .int .i64 a4, .int .i64 a5]) := ⟨Blk.step blk hk⟩
  replace HU : Aside0 (Blk w3 (w2.heap.size) 68 #[.float .f64 a1, .int .i64 a2, .int .i64 a3, .int .i64 a4, .int .i64 a5]) := ⟨Blk.step blk hk⟩
  replace HB := Aside0.mk (below_step bel hk)
  have hsw3 := hk.size
  try simp at hsw3
  clear hk
  obtain ⟨cA0, cA1, cA2, cA3, cA4, fA⟩ := HA.out.c5
  obtain ⟨cU0, cU1, cU2, cU3, cU4, fU⟩ := HU.out.c5
  have nAw3 : w1.heap.size < w3.heap.size := by omega
  have uAw3 : ¬ w1.heap.size = w3.heap.size := by omega
  have nUw3 : w2.heap.size < w3.heap.size := by omega
  have uUw3 : ¬ w2.heap.size = w3.heap.size := by omega
  have HC := Aside0.mk (Blk.new w3 68 #[.float .f64 c1, .int .i64 c2, .int .i64 c3, .int .i64 c4, .int .i64 c5])
  go_wp2_with fail
  clear cA0 cA1 cA2 cA3 cA4 fA cU0 cU1 cU2 cU3 cU4 fU
  refine (CD.out _).mono ?_
  rintro e w4 ⟨rfl, hk⟩
  replace HA : Aside0 (Blk w4 (w1.heap.size) 68 #[.float .f64 a1, .int .i64 a2, .int .i64 a3, .int .i64 a4, .int .i64 a5]) := ⟨Blk.step blk hk⟩
  replace HU : Aside0 (Blk w4 (w2.heap.size) 68 #[.float .f64 a1, .int .i64 a2, .int .i64 a3, .int .i64 a4, .int .i64 a5]) := ⟨Blk.step blk hk⟩
  replace HC : Aside0 (Blk w4 (w3.heap.size) 68 #[.float .f64 c1, .int .i64 c2, .int .i64 c3, .int .i64 c4, .int .i64 c5]) := ⟨Blk.step blk hk⟩
  replace HB := Aside0.mk (below_step bel hk)
  have hsw4 := hk.size
  try simp at hsw4
  clear hk
  obtain ⟨cA0, cA1, cA2, cA3, cA4, fA⟩ := HA.out.c5
  obtain ⟨cU0, cU1, cU2, cU3, cU4, fU⟩ := HU.out.c5
  obtain ⟨cC0, cC1, cC2, cC3, cC4, fC⟩ := HC.out.c5
  have nAw4 : w1.heap.size < w4.heap.size := by omega
  have uAw4 : ¬ w1.heap.size = w4.heap.size := by omega
  have nUw4 : w2.heap.size < w4.heap.size := by omega
  have uUw4 : ¬ w2.heap.size = w4.heap.size := by omega
  have nCw4 : w3.heap.size < w4.heap.size := by omega
  have uCw4 : ¬ w3.heap.size = w4.heap.size := by omega
  have HD := Aside0.mk (Blk.new w4 68 #[.float .f64 c1, .int .i64 c2, .int .i64 c3, .int .i64 c4, .int .i64 c5])
  go_wp2_with fail
  clear cA0 cA1 cA2 cA3 cA4 fA cU0 cU1 cU2 cU3 cU4 fU cC0 cC1 cC2 cC3 cC4 fC
  refine (same64_calls _ _ _ _ _ _).mono ?_
  rintro e w5 ⟨rfl, hk⟩
  replace HA : Aside0 (Blk w5 (w1.heap.size) 68 #[.float .f64 a1, .int .i64 a2, .int .i64 a3, .int .i64 a4, .int .i64 a5]) := ⟨Blk.step blk hk⟩
  replace HU : Aside0 (Blk w5 (w2.heap.size) 68 #[.float .f64 a1, .int .i64 a2, .int .i64 a3, .int .i64 a4, .int .i64 a5]) := ⟨Blk.step blk hk⟩
  replace HC : Aside0 (Blk w5 (w3.heap.size) 68 #[.float .f64 c1, .int .i64 c2, .int .i64 c3, .int .i64 c4, .int .i64 c5]) := ⟨Blk.step blk hk⟩
  replace HD : Aside0 (Blk w5 (w4.heap.size) 68 #[.float .f64 c1, .int .i64 c2, .int .i64 c3, .int .i64 c4, .int .i64 c5]) := ⟨Blk.step blk hk⟩
  replace HB := Aside0.mk (below_step bel hk)
  have hsw5 := hk.size
  try simp at hsw5
  clear hk
  obtain ⟨cA0, cA1, cA2, cA3, cA4, fA⟩ := HA.out.c5
  obtain ⟨cU0, cU1, cU2, cU3, cU4, fU⟩ := HU.out.c5
  obtain ⟨cC0, cC1, cC2, cC3, cC4, fC⟩ := HC.out.c5
  obtain ⟨cD0, cD1, cD2, cD3, cD4, fD⟩ := HD.out.c5
  have nAw5 : w1.heap.size < w5.heap.size := by omega
  have uAw5 : ¬ w1.heap.size = w5.heap.size := by omega
  have nUw5 : w2.heap.size < w5.heap.size := by omega
  have uUw5 : ¬ w2.heap.size = w5.heap.size := by omega
  have nCw5 : w3.heap.size < w5.heap.size := by omega
  have uCw5 : ¬ w3.heap.size = w5.heap.size := by omega
  have nDw5 : w4.heap.size < w5.heap.size := by omega
  have uDw5 : ¬ w4.heap.size = w5.heap.size := by omega
  go_wp2_with fail
  clear cA0 cA1 cA2 cA3 cA4 fA cU0 cU1 cU2 cU3 cU4 fU cC0 cC1 cC2 cC3 cC4 fC cD0 cD1 cD2 cD3 cD4 fD
  clear HA
  clear HU
  refine (same64_calls _ _ _ _ _ _).mono ?_
  rintro e w6 ⟨rfl, hk⟩
  replace HC : Aside0 (Blk w6 (w3.heap.size) 68 #[.float .f64 c1, .int .i64 c2, .int .i64 c3, .int .i64 c4, .int .i64 c5]) := ⟨Blk.step blk hk⟩
  replace HD : Aside0 (Blk w6 (w4.heap.size) 68 #[.float .f64 c1, .int .i64 c2, .int .i64 c3, .int .i64 c4, .int .i64 c5]) := ⟨Blk.step blk hk⟩
  replace HB := Aside0.mk (below_step bel hk)
  have hsw6 := hk.size
  try simp at hsw6
  clear hk
  obtain ⟨cC0, cC1, cC2, cC3, cC4, fC⟩ := HC.out.c5
  obtain ⟨cD0, cD1, cD2, cD3, cD4, fD⟩ := HD.out.c5
  have nCw6 : w3.heap.size < w6.heap.size := by omega
  have uCw6 : ¬ w3.heap.size = w6.heap.size := by omega
  have nDw6 : w4.heap.size < w6.heap.size := by omega
  have uDw6 : ¬ w4.heap.size = w6.heap.size := by omega
  go_wp2_with fail
  clear cC0 cC1 cC2 cC3 cC4 fC cD0 cD1 cD2 cD3 cD4 fD
  clear HC
  clear HD
  refine (RecF.awake_calls _).mono ?_
  rintro e w7 ⟨rfl, hk⟩
  replace HB := Aside0.mk (below_step bel hk)
  have hsw7 := hk.size
  try simp at hsw7
  clear hk
  go_wp2_with fail
  refine (CM.out _).mono ?_
  rintro e w8 ⟨rfl, hk⟩
  replace HB := Aside0.mk (below_step bel hk)
  have hsw8 := hk.size
  try simp at hsw8
  clear hk
  have HM := Aside0.mk (Blk.new w8 77 #[.float .f64 y1, .int .i64 y2, .int .i64 y3, .int .i64 y4, .int .i64 y5, .bool (B0 == 1)])
  go_wp2_with fail
  refine (CX.out _).mono ?_
  rintro e w9 ⟨rfl, hk⟩
  replace HM : Aside0 (Blk w9 (w8.heap.size) 77 #[.float .f64 y1, .int .i64 y2, .int .i64 y3, .int .i64 y4, .int .i64 y5, .bool (B0 == 1)]) := ⟨Blk.step blk hk⟩
  replace HB := Aside0.mk (below_step bel hk)
  have hsw9 := hk.size
  try simp at hsw9
  clear hk
  obtain ⟨cM0, cM1, cM2, cM3, cM4, cM5, fM⟩ := HM.out.c6
  have nMw9 : w8.heap.size < w9.heap.size := by omega
  have uMw9 : ¬ w8.heap.size = w9.heap.size := by omega
  have HX := Aside0.mk (Blk.new w9 73 #[.float .f64 z1, .int .i64 z2, .int .i64 z3, .int .i64 z4, .int .i64 z5, .int .i64 (B1)])
  go_wp2_with fail
  clear cM0 cM1 cM2 cM3 cM4 cM5 fM
  refine (CY.out _).mono ?_
  rintro e w10 ⟨rfl, hk⟩
  replace HM : Aside0 (Blk w10 (w8.heap.size) 77 #[.float .f64 y1, .int .i64 y2, .int .i64 y3, .int .i64 y4, .int .i64 y5, .bool (B0 == 1)]) := ⟨Blk.step blk hk⟩
  replace HX : Aside0 (Blk w10 (w9.heap.size) 73 #[.float .f64 z1, .int .i64 z2, .int .i64 z3, .int .i64 z4, .int .i64 z5, .int .i64 (B1)]) := ⟨Blk.step blk hk⟩
  replace HB := Aside0.mk (below_step bel hk)
  have hsw10 := hk.size
  try simp at hsw10
  clear hk
  obtain ⟨cM0, cM1, cM2, cM3, cM4, cM5, fM⟩ := HM.out.c6
  obtain ⟨cX0, cX1, cX2, cX3, cX4, cX5, fX⟩ := HX.out.c6
  have nMw10 : w8.heap.size < w10.heap.size := by omega
  have uMw10 : ¬ w8.heap.size = w10.heap.size := by omega
  have nXw10 : w9.heap.size < w10.heap.size := by omega
  have uXw10 : ¬ w9.heap.size = w10.heap.size := by omega
  have HY := Aside0.mk (Blk.new w10 68 #[.float .f64 y1, .int .i64 y2, .int .i64 y3, .int .i64 y4, .int .i64 y5])
  go_wp2_with fail
  clear cM0 cM1 cM2 cM3 cM4 cM5 fM cX0 cX1 cX2 cX3 cX4 cX5 fX
  refine (CZ.out _).mono ?_
  rintro e w11 ⟨rfl, hk⟩
  replace HM : Aside0 (Blk w11 (w8.heap.size) 77 #[.float .f64 y1, .int .i64 y2, .int .i64 y3, .int .i64 y4, .int .i64 y5, .bool (B0 == 1)]) := ⟨Blk.step blk hk⟩
  replace HX : Aside0 (Blk w11 (w9.heap.size) 73 #[.float .f64 z1, .int .i64 z2, .int .i64 z3, .int .i64 z4, .int .i64 z5, .int .i64 (B1)]) := ⟨Blk.step blk hk⟩
  replace HY : Aside0 (Blk w11 (w10.heap.size) 68 #[.float .f64 y1, .int .i64 y2, .int .i64 y3, .int .i64 y4, .int .i64 y5]) := ⟨Blk.step blk hk⟩
  replace HB := Aside0.mk (below_step bel hk)
  have hsw11 := hk.size
  try simp at hsw11
  clear hk
  obtain ⟨cM0, cM1, cM2, cM3, cM4, cM5, fM⟩ := HM.out.c6
  obtain ⟨cX0, cX1, cX2, cX3, cX4, cX5, fX⟩ := HX.out.c6
  obtain ⟨cY0, cY1, cY2, cY3, cY4, fY⟩ := HY.out.c5
  have nMw11 : w8.heap.size < w11.heap.size := by omega
  have uMw11 : ¬ w8.heap.size = w11.heap.size := by omega
  have nXw11 : w9.heap.size < w11.heap.size := by omega
  have uXw11 : ¬ w9.heap.size = w11.heap.size := by omega
  have nYw11 : w10.heap.size < w11.heap.size := by omega
  have uYw11 : ¬ w10.heap.size = w11.heap.size := by omega
  have HZ := Aside0.mk (Blk.new w11 68 #[.float .f64 z1, .int .i64 z2, .int .i64 z3, .int .i64 z4, .int .i64 z5])
  go_wp2_with fail
  refine wp_region_noPanic ?_
  refine wp_region_held_drew (S := (fun w' => w'.cell? ⟨w8.heap.size, 0, none⟩ = some (.float .f64 y1) ∧ w'.cell? ⟨w8.heap.size, 1, none⟩ = some (.int .i64 y2) ∧ w'.cell? ⟨w8.heap.size, 2, none⟩ = some (.int .i64 y3) ∧ w'.cell? ⟨w8.heap.size, 3, none⟩ = some (.int .i64 y4) ∧ w'.cell? ⟨w8.heap.size, 4, none⟩ = some (.int .i64 y5) ∧ w'.cell? ⟨w8.heap.size, 5, none⟩ = some (.bool (B0 == 1)) ∧ w'.cell? ⟨w10.heap.size, 0, none⟩ = some (.float .f64 y1) ∧ w'.cell? ⟨w10.heap.size, 1, none⟩ = some (.int .i64 y2) ∧ w'.cell? ⟨w10.heap.size, 2, none⟩ = some (.int .i64 y3) ∧ w'.cell? ⟨w10.heap.size, 3, none⟩ = some (.int .i64 y4) ∧ w'.cell? ⟨w10.heap.size, 4, none⟩ = some (.int .i64 y5))) (by kernel_rfl) (by refine ⟨?_, ?_, ?_, ?_, ?_, ?_, ?_, ?_, ?_, ?_, ?_⟩ <;> first | assumption | (go_keep; done) | (go_simp; done) | (simp; omega)) (fun hHeld => ?_)
  change wpAnyH _ _ _ _ _ 17 _ _ _
  refine Rg.tk (fuel := 16) 0 ?_
  refine Rg.tk (fuel := 15) 1 ?_
  refine Rg.tk (fuel := 14) 2 ?_
  refine Rg.tk (fuel := 13) 3 ?_
  refine Rg.tk (fuel := 12) 4 ?_
  refine Rg.tk (fuel := 11) 5 ?_
  refine wpAnyH_ready (fuel := 10) (rs := [6]) (by kernel_rfl) (by simp) ?_
  refine AllReadyH.cons rfl (fun K hK => ?_) ?_
  · go_simp
    refine (same64_calls _ _ _ _ _ _).mono ?_
    rintro e w12 ⟨rfl, hk⟩
    replace HM : Aside0 (Blk w12 (w8.heap.size) 77 #[.float .f64 y1, .int .i64 y2, .int .i64 y3, .int .i64 y4, .int .i64 y5, .bool (B0 == 1)]) := ⟨Blk.step blk hk⟩
    replace HX : Aside0 (Blk w12 (w9.heap.size) 73 #[.float .f64 z1, .int .i64 z2, .int .i64 z3, .int .i64 z4, .int .i64 z5, .int .i64 (B1)]) := ⟨Blk.step blk hk⟩
    replace HY : Aside0 (Blk w12 (w10.heap.size) 68 #[.float .f64 y1, .int .i64 y2, .int .i64 y3, .int .i64 y4, .int .i64 y5]) := ⟨Blk.step blk hk⟩
    replace HZ : Aside0 (Blk w12 (w11.heap.size) 68 #[.float .f64 z1, .int .i64 z2, .int .i64 z3, .int .i64 z4, .int .i64 z5]) := ⟨Blk.step blk hk⟩
    replace HB := Aside0.mk (below_step bel hk)
    have hsw12 := hk.size
    try simp at hsw12
    clear hk
    obtain ⟨cM0, cM1, cM2, cM3, cM4, cM5, fM⟩ := HM.out.c6
    obtain ⟨cX0, cX1, cX2, cX3, cX4, cX5, fX⟩ := HX.out.c6
    obtain ⟨cY0, cY1, cY2, cY3, cY4, fY⟩ := HY.out.c5
    obtain ⟨cZ0, cZ1, cZ2, cZ3, cZ4, fZ⟩ := HZ.out.c5
    go_wp2_with fail
    refine hK.out _ _ (by refine ⟨?_, ?_, ?_, ?_, ?_, ?_, ?_, ?_, ?_, ?_, ?_⟩ <;> first | assumption | (go_keep; done) | (go_simp; done) | (simp; omega)) (fun hHeld => ?_)
    clear hK K
    try simp only [Act.put, List.setIfInBounds_toArray, List.set_cons_zero, List.set_cons_succ]
    refine Rg.tk (fuel := 9) 7 ?_
    refine Rg.tk (fuel := 8) 8 ?_
    refine Rg.tk (fuel := 7) 9 ?_
    refine Rg.tk (fuel := 6) 10 ?_
    refine Rg.tk (fuel := 5) 11 ?_
    refine Rg.tk (fuel := 4) 12 ?_
    refine Rg.tk (fuel := 3) 13 ?_
    refine Rg.tk (fuel := 2) 14 ?_
    refine Rg.tk (fuel := 1) 15 ?_
    refine Rg.tk (fuel := 0) 16 ?_
    refine wpAnyH_done (by kernel_rfl) ?_ _
    refine NoPanic.normal ?_
    go_wp2_with fail
    refine wp_region_noPanic ?_
    refine wp_region_held_drew (S := (fun w' => w'.cell? ⟨w9.heap.size, 0, none⟩ = some (.float .f64 z1) ∧ w'.cell? ⟨w9.heap.size, 1, none⟩ = some (.int .i64 z2) ∧ w'.cell? ⟨w9.heap.size, 2, none⟩ = some (.int .i64 z3) ∧ w'.cell? ⟨w9.heap.size, 3, none⟩ = some (.int .i64 z4) ∧ w'.cell? ⟨w9.heap.size, 4, none⟩ = some (.int .i64 z5) ∧ w'.cell? ⟨w9.heap.size, 5, none⟩ = some (.int .i64 (B1)) ∧ w'.cell? ⟨w11.heap.size, 0, none⟩ = some (.float .f64 z1) ∧ w'.cell? ⟨w11.heap.size, 1, none⟩ = some (.int .i64 z2) ∧ w'.cell? ⟨w11.heap.size, 2, none⟩ = some (.int .i64 z3) ∧ w'.cell? ⟨w11.heap.size, 3, none⟩ = some (.int .i64 z4) ∧ w'.cell? ⟨w11.heap.size, 4, none⟩ = some (.int .i64 z5))) (by kernel_rfl) (by refine ⟨?_, ?_, ?_, ?_, ?_, ?_, ?_, ?_, ?_, ?_, ?_⟩ <;> first | assumption | (go_keep; done) | (go_simp; done) | (simp; omega)) (fun hHeld => ?_)
    change wpAnyH _ _ _ _ _ 17 _ _ _
    refine Rg.tk (fuel := 16) 0 ?_
    refine Rg.tk (fuel := 15) 1 ?_
    refine Rg.tk (fuel := 14) 2 ?_
    refine Rg.tk (fuel := 13) 3 ?_
    refine Rg.tk (fuel := 12) 4 ?_
    refine Rg.tk (fuel := 11) 5 ?_
    refine wpAnyH_ready (fuel := 10) (rs := [6]) (by kernel_rfl) (by simp) ?_
    refine AllReadyH.cons rfl (fun K hK => ?_) ?_
    · go_simp
      refine (same64_calls _ _ _ _ _ _).mono ?_
      rintro e w13 ⟨rfl, hk⟩
      replace HM : Aside0 (Blk w13 (w8.heap.size) 77 #[.float .f64 y1, .int .i64 y2, .int .i64 y3, .int .i64 y4, .int .i64 y5, .bool (B0 == 1)]) := ⟨Blk.step blk hk⟩
      replace HX : Aside0 (Blk w13 (w9.heap.size) 73 #[.float .f64 z1, .int .i64 z2, .int .i64 z3, .int .i64 z4, .int .i64 z5, .int .i64 (B1)]) := ⟨Blk.step blk hk⟩
      replace HY : Aside0 (Blk w13 (w10.heap.size) 68 #[.float .f64 y1, .int .i64 y2, .int .i64 y3, .int .i64 y4, .int .i64 y5]) := ⟨Blk.step blk hk⟩
      replace HZ : Aside0 (Blk w13 (w11.heap.size) 68 #[.float .f64 z1, .int .i64 z2, .int .i64 z3, .int .i64 z4, .int .i64 z5]) := ⟨Blk.step blk hk⟩
      replace HB := Aside0.mk (below_step bel hk)
      have hsw13 := hk.size
      try simp at hsw13
      clear hk
      obtain ⟨cM0, cM1, cM2, cM3, cM4, cM5, fM⟩ := HM.out.c6
      obtain ⟨cX0, cX1, cX2, cX3, cX4, cX5, fX⟩ := HX.out.c6
      obtain ⟨cY0, cY1, cY2, cY3, cY4, fY⟩ := HY.out.c5
      obtain ⟨cZ0, cZ1, cZ2, cZ3, cZ4, fZ⟩ := HZ.out.c5
      go_wp2_with fail
      refine hK.out _ _ (by refine ⟨?_, ?_, ?_, ?_, ?_, ?_, ?_, ?_, ?_, ?_, ?_⟩ <;> first | assumption | (go_keep; done) | (go_simp; done) | (simp; omega)) (fun hHeld => ?_)
      clear hK K
      try simp only [Act.put, List.setIfInBounds_toArray, List.set_cons_zero, List.set_cons_succ]
      refine Rg.tk (fuel := 9) 7 ?_
      refine Rg.tk (fuel := 8) 8 ?_
      refine Rg.tk (fuel := 7) 9 ?_
      refine Rg.tk (fuel := 6) 10 ?_
      refine Rg.tk (fuel := 5) 11 ?_
      refine Rg.tk (fuel := 4) 12 ?_
      refine Rg.tk (fuel := 3) 13 ?_
      refine Rg.tk (fuel := 2) 14 ?_
      refine Rg.tk (fuel := 1) 15 ?_
      refine Rg.tk (fuel := 0) 16 ?_
      refine wpAnyH_done (by kernel_rfl) ?_ _
      refine NoPanic.normal ?_
      go_wp2_with fail
      go_ret
      exact ⟨rfl, bel⟩
    exact AllReadyH.nil
  exact AllReadyH.nil


theorem law (s : ByteArray) (dst : Int) {w : World} (hz : s.size ≤ 140737488351232) (_ : (Lit.int .i64 dst).wf = true) :
    Calls Try.prog 21 #[.string s, .int .i64 dst] w fun e w' => e = .returned (.bool true) ∧ Below w.heap.size w w' := by
  have CA := fun w => get61_calls s hz w
  have CB := fun w => get77_calls s hz w
  have CC := fun w => get78_calls s dst hz w
  have CD := fun w => of79_calls s dst hz w
  by_cases h1 : 200 < s.size
  · exact walk_big s dst _ _ 0 0 _ _ 0 0 0 0 _ _ _ _ _ _ _ _ 0 0 0 0 0 0 0 0 0 0 0 0 0 0 0 0 0 false w h1 ⟨CA⟩ ⟨CB⟩ ⟨CC⟩ ⟨CD⟩ 
  have CM := fun w => get62_calls s hz w
  have CX := fun w => get63_calls s hz w
  by_cases h2 : s.size < 27
  · rw [gmsg_short (by omega)] at CM
    rw [gdone_short (by omega)] at CX
    exact walk_short s dst _ _ 0 0 _ _ _ _ 0 0 _ _ _ _ _ _ _ _ _ _ _ _ _ _ _ _ _ 0 0 0 0 0 0 0 0 _ w h2 ⟨CA⟩ ⟨CB⟩ ⟨CC⟩ ⟨CD⟩ ⟨CM⟩ ⟨CX⟩
  by_cases h3 : 27 < s.size
  · rw [gmsg_long (by omega)] at CM
    rw [gdone_long (by omega)] at CX
    exact walk_long s dst _ _ 0 0 _ _ _ _ 0 0 _ _ _ _ _ _ _ _ _ _ _ _ _ _ _ _ _ 0 0 0 0 0 0 0 0 _ w ⟨h3, by omega⟩ ⟨CA⟩ ⟨CB⟩ ⟨CC⟩ ⟨CD⟩ ⟨CM⟩ ⟨CX⟩
  have h27 : s.size = 27 := by omega
  have h27' : (s.size : Int) = 27 := by omega
  have p1 : (s.extract 1 s.size).size = 26 := by rw [size_extract' _ _ _ (by omega)]; omega
  have p2 : (s.extract 0 26).size = 26 := by rw [size_extract' _ _ _ (by omega)]
  have v1 : evAt (s.extract 1 s.size) 0 = evAt s 1 := by rw [h27]; exact evAt_ext s 1 (by omega)
  have v2 : evAt (s.extract 0 26) 0 = evAt s 0 := evAt_ext s 0 (by omega)
  have CY := fun w => get77_calls (s.extract 1 s.size) (by omega) w
  have CZ := fun w => get77_calls (s.extract 0 26) (by omega) w
  rw [gev_is (by omega), v1] at CY
  rw [gev_is (by omega), v2] at CZ
  by_cases r1 : rgt (evAt s 1) = true
  · rw [if_pos r1] at CY
    by_cases q1 : bt s 0 ≤ 1
    · rw [gmsg_is h27', if_pos ⟨r1, q1⟩] at CM
      by_cases r2 : rgt (evAt s 0) = true
      · rw [if_pos r2] at CZ
        by_cases q2 : bt s 26 ≤ 7
        · rw [gdone_is h27', if_pos ⟨r2, q2⟩] at CX
          exact walk_ok_ok s dst _ _ 0 0 _ _ 0 0 _ _ _ _ _ _ _ _ _ _ 0 0 0 0 0 0 0 0 0 _ _ _ _ _ _ _ _ false w h27 ⟨CA⟩ ⟨CB⟩ ⟨CC⟩ ⟨CD⟩ ⟨CM⟩ ⟨CX⟩ ⟨CY⟩ ⟨CZ⟩ (decide_eq_false (by omega)) (decide_eq_false (by omega))
        · rw [gdone_is h27', if_neg (fun h => q2 h.2)] at CX
          exact walk_ok_g s dst _ _ 0 0 _ _ 0 _ _ _ _ _ _ _ _ _ _ _ 0 0 0 0 _ _ _ _ _ _ _ _ _ _ _ _ _ false w h27 ⟨CA⟩ ⟨CB⟩ ⟨CC⟩ ⟨CD⟩ ⟨CM⟩ ⟨CX⟩ ⟨CY⟩ ⟨CZ⟩ (decide_eq_false (by omega)) (decide_eq_true (by omega))
      · rw [if_neg r2] at CZ
        rw [gdone_is h27', if_neg (fun h => r2 h.1)] at CX
        exact walk_ok_k s dst _ _ 0 _ _ _ 0 _ _ _ _ _ _ _ _ _ _ _ 0 0 0 0 _ _ _ _ _ _ _ _ _ _ _ _ _ false w h27 ⟨CA⟩ ⟨CB⟩ ⟨CC⟩ ⟨CD⟩ ⟨CM⟩ ⟨CX⟩ ⟨CY⟩ ⟨CZ⟩ (decide_eq_false (by omega)) (by decide)
    · rw [gmsg_is h27', if_neg (fun h => q1 h.2)] at CM
      by_cases r2 : rgt (evAt s 0) = true
      · rw [if_pos r2] at CZ
        by_cases q2 : bt s 26 ≤ 7
        · rw [gdone_is h27', if_pos ⟨r2, q2⟩] at CX
          exact walk_g_ok s dst _ _ 0 0 _ _ _ 0 _ _ _ _ _ _ _ _ _ _ _ _ _ _ 0 0 0 0 0 _ _ _ _ _ _ _ _ _ w h27 ⟨CA⟩ ⟨CB⟩ ⟨CC⟩ ⟨CD⟩ ⟨CM⟩ ⟨CX⟩ ⟨CY⟩ ⟨CZ⟩ (decide_eq_true (by omega)) (decide_eq_false (by omega))
        · rw [gdone_is h27', if_neg (fun h => q2 h.2)] at CX
          exact walk_g_g s dst _ _ 0 0 _ _ _ _ _ _ _ _ _ _ _ _ _ _ _ _ _ _ _ _ _ _ _ _ _ _ _ _ _ _ _ _ w h27 ⟨CA⟩ ⟨CB⟩ ⟨CC⟩ ⟨CD⟩ ⟨CM⟩ ⟨CX⟩ ⟨CY⟩ ⟨CZ⟩ (decide_eq_true (by omega)) (decide_eq_true (by omega))
      · rw [if_neg r2] at CZ
        rw [gdone_is h27', if_neg (fun h => r2 h.1)] at CX
        exact walk_g_k s dst _ _ 0 _ _ _ _ _ _ _ _ _ _ _ _ _ _ _ _ _ _ _ _ _ _ _ _ _ _ _ _ _ _ _ _ _ w h27 ⟨CA⟩ ⟨CB⟩ ⟨CC⟩ ⟨CD⟩ ⟨CM⟩ ⟨CX⟩ ⟨CY⟩ ⟨CZ⟩ (decide_eq_true (by omega)) (by decide)
  · rw [if_neg r1] at CY
    rw [gmsg_is h27', if_neg (fun h => r1 h.1)] at CM
    by_cases r2 : rgt (evAt s 0) = true
    · rw [if_pos r2] at CZ
      by_cases q2 : bt s 26 ≤ 7
      · rw [gdone_is h27', if_pos ⟨r2, q2⟩] at CX
        exact walk_k_ok s dst _ _ _ 0 _ _ _ 0 _ _ _ _ _ _ _ _ _ _ _ _ _ _ 0 0 0 0 0 _ _ _ _ _ _ _ _ _ w h27 ⟨CA⟩ ⟨CB⟩ ⟨CC⟩ ⟨CD⟩ ⟨CM⟩ ⟨CX⟩ ⟨CY⟩ ⟨CZ⟩ (by decide) (decide_eq_false (by omega))
      · rw [gdone_is h27', if_neg (fun h => q2 h.2)] at CX
        exact walk_k_g s dst _ _ _ 0 _ _ _ _ _ _ _ _ _ _ _ _ _ _ _ _ _ _ _ _ _ _ _ _ _ _ _ _ _ _ _ _ w h27 ⟨CA⟩ ⟨CB⟩ ⟨CC⟩ ⟨CD⟩ ⟨CM⟩ ⟨CX⟩ ⟨CY⟩ ⟨CZ⟩ (by decide) (decide_eq_true (by omega))
    · rw [if_neg r2] at CZ
      rw [gdone_is h27', if_neg (fun h => r2 h.1)] at CX
      exact walk_k_k s dst _ _ _ _ _ _ _ _ _ _ _ _ _ _ _ _ _ _ _ _ _ _ _ _ _ _ _ _ _ _ _ _ _ _ _ _ w h27 ⟨CA⟩ ⟨CB⟩ ⟨CC⟩ ⟨CD⟩ ⟨CM⟩ ⟨CX⟩ ⟨CY⟩ ⟨CZ⟩ (by decide) (by decide)

end Go.Proofs.Ytlbjcdfognofgaa.ReadsR
