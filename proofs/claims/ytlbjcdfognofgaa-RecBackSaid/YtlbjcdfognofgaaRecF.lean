/- What must come at any rate, of the records. -/
import Derived.Test.YtlbjcdfognofgaaRecE
import Derived.Deep.DrawnRows
import Derived.Deep.RegionHeld3
namespace Go.Proofs.Ytlbjcdfognofgaa.RecF
open Go.RowKit Go.Proofs.YtlbjcdfognofgaaW.PrintWords Go.Proofs.YtlbjcdfognofgaaW.PrintLast Go.Proofs.YtlbjcdfognofgaaW.PrintMore Go.Proofs.Ytlbjcdfognofgaa.Be Go.Proofs.Ytlbjcdfognofgaa.Fl Go.Proofs.Ytlbjcdfognofgaa.StampA Go.Proofs.Ytlbjcdfognofgaa.StampB Go.Proofs.Ytlbjcdfognofgaa.StampC Go.Proofs.Ytlbjcdfognofgaa.StampD Go.Proofs.Ytlbjcdfognofgaa.StampK Go.Proofs.Ytlbjcdfognofgaa.SRec Go.Proofs.Ytlbjcdfognofgaa.StampQ Go.Proofs.Ytlbjcdfognofgaa.StampR Go.Proofs.Ytlbjcdfognofgaa.Wk Go.Proofs.Ytlbjcdfognofgaa.RecA Go.Proofs.Ytlbjcdfognofgaa.RecB Go.Proofs.Ytlbjcdfognofgaa.RecC Go.Proofs.Ytlbjcdfognofgaa.RecD Go.Proofs.Ytlbjcdfognofgaa.RecE Go.Proofs.Ytlbjcdfognofgaa.PRecStates
attribute [local go_sem ↓] Go.wp_at_zero Go.wp_at_succ
attribute [local go_sem] run_store_float
set_option linter.unusedVariables false


set_option maxRecDepth 100000 in
set_option maxHeartbeats 4000000 in
theorem awake_walk (K M : ByteArray) (w : World) (hk : K.size = 25) (hm : M.size = 27)
    (CK : Aside0 (∀ w, Calls Try.prog 73 #[.agg #[.float .f64 4609434218613702656, .int .i64 2, .int .i64 7, .int .i64 3, .int .i64 (-4)]] w fun e w' => e = .returned (.tuple #[.string K, .int .i64 0]) ∧ Below w.heap.size w w'))
    (CM : Aside0 (∀ w, Calls Try.prog 59 #[.agg #[.float .f64 4609434218613702656, .int .i64 2, .int .i64 7, .int .i64 3, .int .i64 (-4), .bool true]] w fun e w' => e = .returned (.tuple #[.string M, .int .i64 0]) ∧ Below w.heap.size w w'))
    (CG : Aside0 (∀ w, Calls Try.prog 62 #[.string M] w fun e w' => e = .returned (.tuple #[.agg #[.float .f64 4609434218613702656, .int .i64 2, .int .i64 7, .int .i64 3, .int .i64 (-4), .bool true], .int .i64 0]) ∧ Below w.heap.size w w'))
    (CO : Aside0 (∀ w, Calls Try.prog 78 #[.string K, .int .i64 3] w fun e w' => e = .returned (.tuple #[.agg #[.float .f64 4609434218613702656, .int .i64 2, .int .i64 7, .int .i64 3, .int .i64 (-4)], .int .i64 0]) ∧ Below w.heap.size w w')) :
    Calls Try.prog 41 #[] w fun e w' => e = .returned (.bool true) ∧ Below w.heap.size w w' := by
  have hu2 := Try.underlying42
  have hu3 := Try.underlying68
  have hu4 := Try.underlying77
  have heq : ∀ w : World, (binOp .eql 68 (.agg #[.float .f64 4609434218613702656, .int .i64 2, .int .i64 7, .int .i64 3, .int .i64 (-4)]) (.agg #[.float .f64 4609434218613702656, .int .i64 2, .int .i64 7, .int .i64 3, .int .i64 (-4)])).run Try.prog w = .ok (.bool true) w := fun w => by kernel_rfl
  have HB := Aside0.mk (below_alloc (Below.refl w.heap.size w) (.cells #[.float .f64 4609434218613702656, .int .i64 2, .int .i64 7, .int .i64 3, .int .i64 (-4)] 68))
  have HE := Aside0.mk (Blk.new w 68 #[.float .f64 4609434218613702656, .int .i64 2, .int .i64 7, .int .i64 3, .int .i64 (-4)])
  go_enter Try.func41, Try.ntmps41
  obtain ⟨cE0, cE1, cE2, cE3, cE4, fE⟩ := HE.out.c5
  go_wp2_with fail
  clear cE0 cE1 cE2 cE3 cE4 fE
  refine (CK.out _).mono ?_
  rintro e w1 ⟨rfl, hk⟩
  replace HE : Aside0 (Blk w1 (w.heap.size) 68 #[.float .f64 4609434218613702656, .int .i64 2, .int .i64 7, .int .i64 3, .int .i64 (-4)]) := ⟨Blk.step blk hk⟩
  replace HB := Aside0.mk (below_step bel hk)
  have hsw1 := hk.size
  try simp at hsw1
  clear hk
  obtain ⟨cE0, cE1, cE2, cE3, cE4, fE⟩ := HE.out.c5
  go_wp2_with fail
  clear cE0 cE1 cE2 cE3 cE4 fE
  refine (CM.out _).mono ?_
  rintro e w2 ⟨rfl, hk⟩
  replace HE : Aside0 (Blk w2 (w.heap.size) 68 #[.float .f64 4609434218613702656, .int .i64 2, .int .i64 7, .int .i64 3, .int .i64 (-4)]) := ⟨Blk.step blk hk⟩
  replace HB := Aside0.mk (below_step bel hk)
  have hsw2 := hk.size
  try simp at hsw2
  clear hk
  obtain ⟨cE0, cE1, cE2, cE3, cE4, fE⟩ := HE.out.c5
  go_wp2_with fail
  clear cE0 cE1 cE2 cE3 cE4 fE
  refine (CG.out _).mono ?_
  rintro e w3 ⟨rfl, hk⟩
  replace HE : Aside0 (Blk w3 (w.heap.size) 68 #[.float .f64 4609434218613702656, .int .i64 2, .int .i64 7, .int .i64 3, .int .i64 (-4)]) := ⟨Blk.step blk hk⟩
  replace HB := Aside0.mk (below_step bel hk)
  have hsw3 := hk.size
  try simp at hsw3
  clear hk
  obtain ⟨cE0, cE1, cE2, cE3, cE4, fE⟩ := HE.out.c5
  have HM := Aside0.mk (Blk.new w3 77 #[.float .f64 4609434218613702656, .int .i64 2, .int .i64 7, .int .i64 3, .int .i64 (-4), .bool true])
  go_wp2_with fail
  clear cE0 cE1 cE2 cE3 cE4 fE
  refine (CO.out _).mono ?_
  rintro e w4 ⟨rfl, hk⟩
  replace HE : Aside0 (Blk w4 (w.heap.size) 68 #[.float .f64 4609434218613702656, .int .i64 2, .int .i64 7, .int .i64 3, .int .i64 (-4)]) := ⟨Blk.step blk hk⟩
  replace HM : Aside0 (Blk w4 (w3.heap.size) 77 #[.float .f64 4609434218613702656, .int .i64 2, .int .i64 7, .int .i64 3, .int .i64 (-4), .bool true]) := ⟨Blk.step blk hk⟩
  replace HB := Aside0.mk (below_step bel hk)
  have hsw4 := hk.size
  try simp at hsw4
  clear hk
  obtain ⟨cE0, cE1, cE2, cE3, cE4, fE⟩ := HE.out.c5
  obtain ⟨cM0, cM1, cM2, cM3, cM4, cM5, fM⟩ := HM.out.c6
  have n1 : w3.heap.size < w4.heap.size := by omega
  have n2 : w.heap.size < w4.heap.size := by omega
  have n3 : ¬ w3.heap.size = w4.heap.size := by omega
  have n4 : ¬ w.heap.size = w4.heap.size := by omega
  go_wp2_with fail
  go_ret
  exact ⟨rfl, bel⟩


theorem k_is : rgt (4609434218613702656, 2, 7, 3, -4) = true := by decide +kernel

theorem m_back : gmsg (strOfNums [1] ++ evS 4609434218613702656 2 7 3 (-4)) = ((4609434218613702656, 2, 7, 3, -4), true, 0) := by decide +kernel

theorem o_back : gof (evK 4609434218613702656 2 7 (-4)) 3 = ((4609434218613702656, 2, 7, 3, -4), 0) := by decide +kernel

/-- awake: what must come at any rate. -/
theorem awake_calls (w : World) : Calls Try.prog 41 #[] w fun e w' => e = .returned (.bool true) ∧ Below w.heap.size w w' := by
  have hr : rightB 4609434218613702656 2 7 3 = true := k_is
  refine awake_walk (evK 4609434218613702656 2 7 (-4)) (strOfNums [1] ++ evS 4609434218613702656 2 7 3 (-4)) w (by decide +kernel) (by decide +kernel) ⟨fun w => ?_⟩ ⟨fun w => ?_⟩ ⟨fun w => ?_⟩ ⟨fun w => ?_⟩
  · have h := key_calls 4609434218613702656 2 7 3 (-4) (by decide) (by decide) w
    rw [hr] at h
    exact h
  · refine msg_true_ok 4609434218613702656 2 7 3 (-4) (evS 4609434218613702656 2 7 3 (-4)) w (by decide +kernel) ⟨fun w => ?_⟩
    have h := put_calls 4609434218613702656 2 7 3 (-4) (by decide) (by decide) w
    rw [hr] at h
    exact h
  · have h := get62_calls (strOfNums [1] ++ evS 4609434218613702656 2 7 3 (-4)) (by decide +kernel) w
    rw [m_back] at h
    exact h
  · have h := get78_calls (evK 4609434218613702656 2 7 (-4)) 3 (by decide +kernel) w
    rw [o_back] at h
    exact h

end Go.Proofs.Ytlbjcdfognofgaa.RecF
