/- The reference's key and bytes of an event. -/
import Derived.Test.YtlbjcdfognofgaaRecI
import Derived.Deep.DrawnRows
import Derived.Deep.RegionHeld3
namespace Go.Proofs.Ytlbjcdfognofgaa.RecJ
open Go.RowKit Go.Proofs.YtlbjcdfognofgaaW.PrintWords Go.Proofs.YtlbjcdfognofgaaW.PrintLast Go.Proofs.YtlbjcdfognofgaaW.PrintMore Go.Proofs.Ytlbjcdfognofgaa.Be Go.Proofs.Ytlbjcdfognofgaa.Fl Go.Proofs.Ytlbjcdfognofgaa.StampA Go.Proofs.Ytlbjcdfognofgaa.StampB Go.Proofs.Ytlbjcdfognofgaa.StampC Go.Proofs.Ytlbjcdfognofgaa.StampD Go.Proofs.Ytlbjcdfognofgaa.StampK Go.Proofs.Ytlbjcdfognofgaa.SRec Go.Proofs.Ytlbjcdfognofgaa.StampQ Go.Proofs.Ytlbjcdfognofgaa.StampR Go.Proofs.Ytlbjcdfognofgaa.Wk Go.Proofs.Ytlbjcdfognofgaa.RecA Go.Proofs.Ytlbjcdfognofgaa.RecB Go.Proofs.Ytlbjcdfognofgaa.RecC Go.Proofs.Ytlbjcdfognofgaa.RecD Go.Proofs.Ytlbjcdfognofgaa.RecE Go.Proofs.Ytlbjcdfognofgaa.RecF Go.Proofs.Ytlbjcdfognofgaa.RecI Go.Proofs.Ytlbjcdfognofgaa.PRecStates
attribute [local go_sem ↓] Go.wp_at_zero Go.wp_at_succ
attribute [local go_sem] run_store_float
set_option linter.unusedVariables false


set_option maxRecDepth 100000 in
set_option maxHeartbeats 4000000 in
theorem key75_walk (t : Nat) (s n d p : Int) (k N Y : ByteArray) (w : World) (hk : 8 ≤ k.size) (hs : -1 ≤ s ∧ s < 6) (zn : N.size ≤ 8) (zy : Y.size ≤ 8)
    (CK : Aside0 (Gives 68 #[.agg #[.float .f64 t, .int .i64 s, .int .i64 n]] (.tuple #[.string k, .int .i64 0])))
    (CN : Aside0 (Gives 26 #[.int .i64 n] (.string N))) (CY : Aside0 (Gives 26 #[.int .i64 p] (.string Y))) :
    Calls Try.prog 75 #[.agg #[.float .f64 t, .int .i64 s, .int .i64 n, .int .i64 d, .int .i64 p]] w fun e w' => e = .returned (.string (k.extract 0 8 ++ strOfNums [s + 1] ++ N ++ Y)) ∧ Below w.heap.size w w' := by
  have hu2 := Try.underlying42
  have hu3 := Try.underlying68
  have e1 : ∀ W : World, (Instr.slice 9 (.string k) none (some (.int .i64 8)) none).run Try.prog W = .ok (.string (k.extract 0 8)) W := fun W => Go.run_slice_string_h (P := Try.prog) W 9 k Try.underlying9 .i64 8 (by omega) (by omega)
  have hx : (k.extract 0 8).size = 8 := by rw [size_extract' _ _ _ (by omega)]
  have s0 : ¬ 9223372036854775807 < (k.extract 0 8).size + (strOfNums [s + 1]).size := by have := z1 (s + 1); omega
  have s1 : ¬ 9223372036854775807 < (k.extract 0 8).size + (strOfNums [s + 1]).size + N.size := by have := z1 (s + 1); omega
  have s2 : ¬ 9223372036854775807 < (k.extract 0 8).size + (strOfNums [s + 1]).size + N.size + Y.size := by have := z1 (s + 1); omega
  have hw : IntKind.i64.wrap (s + 1) = s + 1 := by rw [IntKind.wrap_i64]; omega
  have hw2 : IntKind.u8.wrap (s + 1) = s + 1 := by unfold IntKind.wrap; simp [IntKind.bits, IntKind.signed]; omega
  have cv : ∀ (W : World) (b : Nat), W.cell? ⟨b, 0, none⟩ = some (.int .u8 (s + 1)) → (convert 101 9 (.slice (some ⟨b, 0, none⟩) 1 1)).run Try.prog W = .ok (.string (strOfNums [s + 1])) W := fun W b h => run_convert_bytes_arg W 101 5 Try.underlying101 Try.underlying5 b 0 1 1 [s + 1] rfl (fun i hi => by (obtain rfl : i = 0 := by omega); exact h) 9 Try.underlying9
  clear hk hs zn zy hx
  generalize k.extract 0 8 = X at *
  generalize strOfNums [s + 1] = B at *
  have HB := Aside0.mk (below_alloc (Below.refl w.heap.size w) (.cells #[.float .f64 t, .int .i64 s, .int .i64 n, .int .i64 d, .int .i64 p] 68))
  have HE := Aside0.mk (Blk.new w 68 #[.float .f64 t, .int .i64 s, .int .i64 n, .int .i64 d, .int .i64 p])
  go_enter Try.func75, Try.ntmps75
  go_wp2_with fail

  refine (CK.out _).mono ?_
  rintro e w1 ⟨rfl, hk⟩
  replace HE : Aside0 (Blk w1 (w.heap.size) 68 #[.float .f64 t, .int .i64 s, .int .i64 n, .int .i64 d, .int .i64 p]) := ⟨Blk.step blk hk⟩
  replace HB := Aside0.mk (below_step bel hk)
  have hsw1 := hk.size
  try simp at hsw1
  clear hk
  obtain ⟨cE0, cE1, cE2, cE3, cE4, fE⟩ := HE.out.c5

  have n1 : w.heap.size < w1.heap.size := by omega
  have n2 : ¬ w.heap.size = w1.heap.size := by omega
  go_wp2_with fail

  refine wp_region_noPanic ?_
  refine wp_region_held_drew (S := (fun w' => w'.cell? ⟨w.heap.size, 0, none⟩ = some (.float .f64 t) ∧ w'.cell? ⟨w.heap.size, 1, none⟩ = some (.int .i64 s) ∧ w'.cell? ⟨w.heap.size, 2, none⟩ = some (.int .i64 n) ∧ w'.cell? ⟨w.heap.size, 3, none⟩ = some (.int .i64 d) ∧ w'.cell? ⟨w.heap.size, 4, none⟩ = some (.int .i64 p) ∧ w.heap.size < w'.heap.size)) (by kernel_rfl) (by refine ⟨?_, ?_, ?_, ?_, ?_, ?_⟩ <;> first | assumption | (go_keep; done) | (simp; omega)) (fun hHeld => ?_)
  change wpAnyH _ _ _ _ _ 20 _ _ _
  refine' wpAnyH_take (fuel := 19) (i := 0) (oi := _) (v := _) ?hi1 (by kernel_rfl) (by kernel_rfl) (by kernel_rfl) (fun _ _ _ h => h) (Or.inl ⟨?hw1, ?hy1⟩) (by assumption) ?hr1
  case hi1 => (simp only [List.getElem?_toArray, List.getElem?_cons_zero]; rfl)
  case hw1 => rfl
  case hy1 => (intro w hSw; (try dsimp only at hSw); go_simp; first | done | with_reducible rfl)
  try simp only [Act.put, List.setIfInBounds_toArray, List.set_cons_zero, List.set_cons_succ]
  refine' wpAnyH_take (fuel := 18) (i := 1) (oi := _) (v := _) ?hi2 (by kernel_rfl) (by kernel_rfl) (by kernel_rfl) (fun _ _ _ h => h) (Or.inl ⟨?hw2, ?hy2⟩) (by assumption) ?hr2
  case hi2 => (simp only [List.getElem?_toArray, List.getElem?_cons_succ, List.getElem?_cons_zero]; rfl)
  case hw2 => rfl
  case hy2 => (intro w hSw; (try dsimp only at hSw); go_simp; first | done | with_reducible rfl)
  try simp only [Act.put, List.setIfInBounds_toArray, List.set_cons_zero, List.set_cons_succ]
  refine' wpAnyH_take (fuel := 17) (i := 2) (oi := _) (v := _) ?hi3 (by kernel_rfl) (by kernel_rfl) (by kernel_rfl) (fun _ _ _ h => h) (Or.inl ⟨?hw3, ?hy3⟩) (by assumption) ?hr3
  case hi3 => (simp only [List.getElem?_toArray, List.getElem?_cons_succ, List.getElem?_cons_zero]; rfl)
  case hw3 => rfl
  case hy3 => (intro w hSw; (try dsimp only at hSw); go_simp; first | done | with_reducible rfl)
  try simp only [Act.put, List.setIfInBounds_toArray, List.set_cons_zero, List.set_cons_succ]
  refine' wpAnyH_take (fuel := 16) (i := 3) (oi := _) (v := _) ?hi4 (by kernel_rfl) (by kernel_rfl) (by kernel_rfl) (fun _ _ _ h => h) (Or.inl ⟨?hw4, ?hy4⟩) (by assumption) ?hr4
  case hi4 => (simp only [List.getElem?_toArray, List.getElem?_cons_succ, List.getElem?_cons_zero]; rfl)
  case hw4 => rfl
  case hy4 => (intro w hSw; (try dsimp only at hSw); go_simp; first | done | with_reducible rfl)
  try simp only [Act.put, List.setIfInBounds_toArray, List.set_cons_zero, List.set_cons_succ]
  refine' wpAnyH_take (fuel := 15) (i := 4) (oi := _) (v := _) ?hi5 (by kernel_rfl) (by kernel_rfl) (by kernel_rfl) (fun _ _ _ h => h) (Or.inl ⟨?hw5, ?hy5⟩) (by assumption) ?hr5
  case hi5 => (simp only [List.getElem?_toArray, List.getElem?_cons_succ, List.getElem?_cons_zero]; rfl)
  case hw5 => rfl
  case hy5 => (intro w hSw; (try dsimp only at hSw); go_simp; first | done | with_reducible rfl)
  try simp only [Act.put, List.setIfInBounds_toArray, List.set_cons_zero, List.set_cons_succ]
  refine' wpAnyH_take (fuel := 14) (i := 5) (oi := _) (v := _) ?hi6 (by kernel_rfl) (by kernel_rfl) (by kernel_rfl) (fun _ _ _ h => h) (Or.inl ⟨?hw6, ?hy6⟩) (by assumption) ?hr6
  case hi6 => (simp only [List.getElem?_toArray, List.getElem?_cons_succ, List.getElem?_cons_zero]; rfl)
  case hw6 => rfl
  case hy6 => (intro w hSw; (try dsimp only at hSw); go_simp; first | done | with_reducible rfl)
  try simp only [Act.put, List.setIfInBounds_toArray, List.set_cons_zero, List.set_cons_succ]
  refine' wpAnyH_take (fuel := 13) (i := 6) (oi := _) (v := _) ?hi7 (by kernel_rfl) (by kernel_rfl) (by kernel_rfl) (fun _ _ _ h => h) (Or.inl ⟨?hw7, ?hy7⟩) (by assumption) ?hr7
  case hi7 => (simp only [List.getElem?_toArray, List.getElem?_cons_succ, List.getElem?_cons_zero]; rfl)
  case hw7 => rfl
  case hy7 => (intro w hSw; (try dsimp only at hSw); go_simp; first | done | with_reducible rfl)
  try simp only [Act.put, List.setIfInBounds_toArray, List.set_cons_zero, List.set_cons_succ]
  refine' wpAnyH_take (fuel := 12) (i := 10) (oi := _) (v := _) ?hi8 (by kernel_rfl) (by kernel_rfl) (by kernel_rfl) (fun _ _ _ h => h) (Or.inl ⟨?hw8, ?hy8⟩) (by assumption) ?hr8
  case hi8 => (simp only [List.getElem?_toArray, List.getElem?_cons_succ, List.getElem?_cons_zero]; rfl)
  case hw8 => rfl
  case hy8 => (intro w hSw; (try dsimp only at hSw); go_simp; first | done | with_reducible rfl)
  try simp only [Act.put, List.setIfInBounds_toArray, List.set_cons_zero, List.set_cons_succ]
  refine' wpAnyH_take (fuel := 11) (i := 11) (oi := _) (v := _) ?hi9 (by kernel_rfl) (by kernel_rfl) (by kernel_rfl) (fun _ _ _ h => h) (Or.inl ⟨?hw9, ?hy9⟩) (by assumption) ?hr9
  case hi9 => (simp only [List.getElem?_toArray, List.getElem?_cons_succ, List.getElem?_cons_zero]; rfl)
  case hw9 => rfl
  case hy9 => (intro w hSw; (try dsimp only at hSw); go_simp; first | done | with_reducible rfl)
  try simp only [Act.put, List.setIfInBounds_toArray, List.set_cons_zero, List.set_cons_succ]
  refine' wpAnyH_take (fuel := 10) (i := 12) (oi := _) (v := _) ?hi10 (by kernel_rfl) (by kernel_rfl) (by kernel_rfl) (fun _ _ _ h => h) (Or.inl ⟨?hw10, ?hy10⟩) (by assumption) ?hr10
  case hi10 => (simp only [List.getElem?_toArray, List.getElem?_cons_succ, List.getElem?_cons_zero]; rfl)
  case hw10 => rfl
  case hy10 => (intro w hSw; (try dsimp only at hSw); go_simp; first | done | with_reducible rfl)
  try simp only [Act.put, List.setIfInBounds_toArray, List.set_cons_zero, List.set_cons_succ]
  refine' wpAnyH_take (fuel := 9) (i := 15) (oi := _) (v := _) ?hi11 (by kernel_rfl) (by kernel_rfl) (by kernel_rfl) (fun _ _ _ h => h) (Or.inl ⟨?hw11, ?hy11⟩) (by assumption) ?hr11
  case hi11 => (simp only [List.getElem?_toArray, List.getElem?_cons_succ, List.getElem?_cons_zero]; rfl)
  case hw11 => rfl
  case hy11 => (intro w hSw; (try dsimp only at hSw); go_simp; first | done | with_reducible rfl)
  try simp only [Act.put, List.setIfInBounds_toArray, List.set_cons_zero, List.set_cons_succ]
  refine' wpAnyH_take (fuel := 8) (i := 16) (oi := _) (v := _) ?hi12 (by kernel_rfl) (by kernel_rfl) (by kernel_rfl) (fun _ _ _ h => h) (Or.inl ⟨?hw12, ?hy12⟩) (by assumption) ?hr12
  case hi12 => (simp only [List.getElem?_toArray, List.getElem?_cons_succ, List.getElem?_cons_zero]; rfl)
  case hw12 => rfl
  case hy12 => (intro w hSw; (try dsimp only at hSw); go_simp; first | done | with_reducible rfl)
  try simp only [Act.put, List.setIfInBounds_toArray, List.set_cons_zero, List.set_cons_succ]
  refine wpAnyH_ready (fuel := 7) (rs := [7, 13]) (by kernel_rfl) (by simp) ?_
  refine AllReadyH.cons rfl (fun K hK => ?_) ?_
  · go_simp
    refine hK.out _ _ (by refine ⟨?_, ?_, ?_, ?_, ?_, ?_⟩ <;> first | assumption | (go_keep; done) | (go_simp; done) | (simp; omega)) (fun hHeld => ?_)
    clear hK K
    try simp only [Act.put, List.setIfInBounds_toArray, List.set_cons_zero, List.set_cons_succ]
    refine wpAnyH_ready (fuel := 6) (rs := [8, 13]) (by kernel_rfl) (by simp) ?_
    refine AllReadyH.cons rfl (fun K hK => ?_) ?_
    · go_simp
      refine hK.out _ _ (by refine ⟨?_, ?_, ?_, ?_, ?_, ?_⟩ <;> first | assumption | (go_keep; done) | (go_simp; done) | (simp; omega)) (fun hHeld => ?_)
      clear hK K
      try simp only [Act.put, List.setIfInBounds_toArray, List.set_cons_zero, List.set_cons_succ]
      refine' wpAnyH_take (fuel := 5) (i := 9) (oi := _) (v := _) ?hi13 (by kernel_rfl) (by kernel_rfl) (by kernel_rfl) (fun _ _ _ h => h) (Or.inl ⟨?hw13, ?hy13⟩) (by assumption) ?hr13
      case hi13 => (simp only [List.getElem?_toArray, List.getElem?_cons_succ, List.getElem?_cons_zero]; rfl)
      case hw13 => rfl
      case hy13 => (intro w hSw; (try dsimp only at hSw); go_simp; first | done | with_reducible rfl)
      try simp only [Act.put, List.setIfInBounds_toArray, List.set_cons_zero, List.set_cons_succ]
      refine wpAnyH_ready (fuel := 4) (rs := [13]) (by kernel_rfl) (by simp) ?_
      refine AllReadyH.cons rfl (fun K hK => ?_) ?_
      · go_simp
        refine (CN.out _).mono ?_
        rintro e wA ⟨rfl, hbA⟩
        have hcA := StampC.bcell hbA
        replace HB := Aside0.mk (below_step bel hbA)
        have hzA := hbA.size
        try simp at hzA
        go_split_ands
        have ccA : wA.cell? ⟨w1.heap.size, 0, none⟩ = some (.int .u8 (s + 1)) := crr hcA
        have qA0 : wA.cell? ⟨w.heap.size, 0, none⟩ = some (.float .f64 t) := crr hcA
        have qA1 : wA.cell? ⟨w.heap.size, 1, none⟩ = some (.int .i64 s) := crr hcA
        have qA2 : wA.cell? ⟨w.heap.size, 2, none⟩ = some (.int .i64 n) := crr hcA
        have qA3 : wA.cell? ⟨w.heap.size, 3, none⟩ = some (.int .i64 d) := crr hcA
        have qA4 : wA.cell? ⟨w.heap.size, 4, none⟩ = some (.int .i64 p) := crr hcA
        have qzA : w.heap.size < wA.heap.size := by omega
        clear hcA
        go_wp2_with fail
        refine hK.out _ _ (by refine ⟨?_, ?_, ?_, ?_, ?_, ?_⟩ <;> first | assumption | (go_keep; done) | (go_simp; done) | (simp; omega)) (fun hHeld => ?_)
        clear hK K
        try simp only [Act.put, List.setIfInBounds_toArray, List.set_cons_zero, List.set_cons_succ]
        refine' wpAnyH_take (fuel := 3) (i := 14) (oi := _) (v := _) ?hi14 (by kernel_rfl) (by kernel_rfl) (by kernel_rfl) (fun _ _ _ h => h) (Or.inl ⟨?hw14, ?hy14⟩) (by assumption) ?hr14
        case hi14 => (simp only [List.getElem?_toArray, List.getElem?_cons_succ, List.getElem?_cons_zero]; rfl)
        case hw14 => rfl
        case hy14 => (intro w hSw; (try dsimp only at hSw); go_simp; first | done | with_reducible rfl)
        try simp only [Act.put, List.setIfInBounds_toArray, List.set_cons_zero, List.set_cons_succ]
        refine wpAnyH_ready (fuel := 2) (rs := [17]) (by kernel_rfl) (by simp) ?_
        refine AllReadyH.cons rfl (fun K hK => ?_) ?_
        · go_simp
          refine (CY.out _).mono ?_
          rintro e wB ⟨rfl, hbB⟩
          have hcB := StampC.bcell hbB
          replace HB := Aside0.mk (below_step bel hbB)
          have hzB := hbB.size
          try simp at hzB
          go_split_ands
          have ccB : wB.cell? ⟨w1.heap.size, 0, none⟩ = some (.int .u8 (s + 1)) := crr hcB
          have qB0 : wB.cell? ⟨w.heap.size, 0, none⟩ = some (.float .f64 t) := crr hcB
          have qB1 : wB.cell? ⟨w.heap.size, 1, none⟩ = some (.int .i64 s) := crr hcB
          have qB2 : wB.cell? ⟨w.heap.size, 2, none⟩ = some (.int .i64 n) := crr hcB
          have qB3 : wB.cell? ⟨w.heap.size, 3, none⟩ = some (.int .i64 d) := crr hcB
          have qB4 : wB.cell? ⟨w.heap.size, 4, none⟩ = some (.int .i64 p) := crr hcB
          have qzB : w.heap.size < wB.heap.size := by omega
          clear hcB
          go_wp2_with fail
          refine hK.out _ _ (by refine ⟨?_, ?_, ?_, ?_, ?_, ?_⟩ <;> first | assumption | (go_keep; done) | (go_simp; done) | (simp; omega)) (fun hHeld => ?_)
          clear hK K
          try simp only [Act.put, List.setIfInBounds_toArray, List.set_cons_zero, List.set_cons_succ]
          refine' wpAnyH_take (fuel := 1) (i := 18) (oi := _) (v := _) ?hi15 (by kernel_rfl) (by kernel_rfl) (by kernel_rfl) (fun _ _ _ h => h) (Or.inl ⟨?hw15, ?hy15⟩) (by assumption) ?hr15
          case hi15 => (simp only [List.getElem?_toArray, List.getElem?_cons_succ, List.getElem?_cons_zero]; rfl)
          case hw15 => rfl
          case hy15 => (intro w hSw; (try dsimp only at hSw); go_simp; first | done | with_reducible rfl)
          try simp only [Act.put, List.setIfInBounds_toArray, List.set_cons_zero, List.set_cons_succ]
          refine' wpAnyH_take (fuel := 0) (i := 19) (oi := _) (v := _) ?hi16 (by kernel_rfl) (by kernel_rfl) (by kernel_rfl) (fun _ _ _ h => h) (Or.inl ⟨?hw16, ?hy16⟩) (by assumption) ?hr16
          case hi16 => (simp only [List.getElem?_toArray, List.getElem?_cons_succ, List.getElem?_cons_zero]; rfl)
          case hw16 => rfl
          case hy16 => (intro w hSw; (try dsimp only at hSw); go_simp; first | done | with_reducible rfl)
          try simp only [Act.put, List.setIfInBounds_toArray, List.set_cons_zero, List.set_cons_succ]
          refine wpAnyH_done (by kernel_rfl) ?_ _
          refine NoPanic.normal ?_
          go_wp2_with fail
          go_ret
          exact ⟨rfl, bel⟩
        exact AllReadyH.nil
      exact AllReadyH.nil
    refine AllReadyH.cons rfl (fun K hK => ?_) ?_
    · go_simp
      refine (CN.out _).mono ?_
      rintro e wA ⟨rfl, hbA⟩
      have hcA := StampC.bcell hbA
      replace HB := Aside0.mk (below_step bel hbA)
      have hzA := hbA.size
      try simp at hzA
      go_split_ands
      have ccA : wA.cell? ⟨w1.heap.size, 0, none⟩ = some (.int .u8 (s + 1)) := crr hcA
      have qA0 : wA.cell? ⟨w.heap.size, 0, none⟩ = some (.float .f64 t) := crr hcA
      have qA1 : wA.cell? ⟨w.heap.size, 1, none⟩ = some (.int .i64 s) := crr hcA
      have qA2 : wA.cell? ⟨w.heap.size, 2, none⟩ = some (.int .i64 n) := crr hcA
      have qA3 : wA.cell? ⟨w.heap.size, 3, none⟩ = some (.int .i64 d) := crr hcA
      have qA4 : wA.cell? ⟨w.heap.size, 4, none⟩ = some (.int .i64 p) := crr hcA
      have qzA : w.heap.size < wA.heap.size := by omega
      clear hcA
      go_wp2_with fail
      refine hK.out _ _ (by refine ⟨?_, ?_, ?_, ?_, ?_, ?_⟩ <;> first | assumption | (go_keep; done) | (go_simp; done) | (simp; omega)) (fun hHeld => ?_)
      clear hK K
      try simp only [Act.put, List.setIfInBounds_toArray, List.set_cons_zero, List.set_cons_succ]
      refine wpAnyH_ready (fuel := 5) (rs := [8, 17]) (by kernel_rfl) (by simp) ?_
      refine AllReadyH.cons rfl (fun K hK => ?_) ?_
      · go_simp
        refine hK.out _ _ (by refine ⟨?_, ?_, ?_, ?_, ?_, ?_⟩ <;> first | assumption | (go_keep; done) | (go_simp; done) | (simp; omega)) (fun hHeld => ?_)
        clear hK K
        try simp only [Act.put, List.setIfInBounds_toArray, List.set_cons_zero, List.set_cons_succ]
        refine' wpAnyH_take (fuel := 4) (i := 9) (oi := _) (v := _) ?hi17 (by kernel_rfl) (by kernel_rfl) (by kernel_rfl) (fun _ _ _ h => h) (Or.inl ⟨?hw17, ?hy17⟩) (by assumption) ?hr17
        case hi17 => (simp only [List.getElem?_toArray, List.getElem?_cons_succ, List.getElem?_cons_zero]; rfl)
        case hw17 => rfl
        case hy17 => (intro w hSw; (try dsimp only at hSw); go_simp; first | done | with_reducible rfl)
        try simp only [Act.put, List.setIfInBounds_toArray, List.set_cons_zero, List.set_cons_succ]
        refine' wpAnyH_take (fuel := 3) (i := 14) (oi := _) (v := _) ?hi18 (by kernel_rfl) (by kernel_rfl) (by kernel_rfl) (fun _ _ _ h => h) (Or.inl ⟨?hw18, ?hy18⟩) (by assumption) ?hr18
        case hi18 => (simp only [List.getElem?_toArray, List.getElem?_cons_succ, List.getElem?_cons_zero]; rfl)
        case hw18 => rfl
        case hy18 => (intro w hSw; (try dsimp only at hSw); go_simp; first | done | with_reducible rfl)
        try simp only [Act.put, List.setIfInBounds_toArray, List.set_cons_zero, List.set_cons_succ]
        refine wpAnyH_ready (fuel := 2) (rs := [17]) (by kernel_rfl) (by simp) ?_
        refine AllReadyH.cons rfl (fun K hK => ?_) ?_
        · go_simp
          refine (CY.out _).mono ?_
          rintro e wB ⟨rfl, hbB⟩
          have hcB := StampC.bcell hbB
          replace HB := Aside0.mk (below_step bel hbB)
          have hzB := hbB.size
          try simp at hzB
          go_split_ands
          have ccB : wB.cell? ⟨w1.heap.size, 0, none⟩ = some (.int .u8 (s + 1)) := crr hcB
          have qB0 : wB.cell? ⟨w.heap.size, 0, none⟩ = some (.float .f64 t) := crr hcB
          have qB1 : wB.cell? ⟨w.heap.size, 1, none⟩ = some (.int .i64 s) := crr hcB
          have qB2 : wB.cell? ⟨w.heap.size, 2, none⟩ = some (.int .i64 n) := crr hcB
          have qB3 : wB.cell? ⟨w.heap.size, 3, none⟩ = some (.int .i64 d) := crr hcB
          have qB4 : wB.cell? ⟨w.heap.size, 4, none⟩ = some (.int .i64 p) := crr hcB
          have qzB : w.heap.size < wB.heap.size := by omega
          clear hcB
          go_wp2_with fail
          refine hK.out _ _ (by refine ⟨?_, ?_, ?_, ?_, ?_, ?_⟩ <;> first | assumption | (go_keep; done) | (go_simp; done) | (simp; omega)) (fun hHeld => ?_)
          clear hK K
          try simp only [Act.put, List.setIfInBounds_toArray, List.set_cons_zero, List.set_cons_succ]
          refine' wpAnyH_take (fuel := 1) (i := 18) (oi := _) (v := _) ?hi19 (by kernel_rfl) (by kernel_rfl) (by kernel_rfl) (fun _ _ _ h => h) (Or.inl ⟨?hw19, ?hy19⟩) (by assumption) ?hr19
          case hi19 => (simp only [List.getElem?_toArray, List.getElem?_cons_succ, List.getElem?_cons_zero]; rfl)
          case hw19 => rfl
          case hy19 => (intro w hSw; (try dsimp only at hSw); go_simp; first | done | with_reducible rfl)
          try simp only [Act.put, List.setIfInBounds_toArray, List.set_cons_zero, List.set_cons_succ]
          refine' wpAnyH_take (fuel := 0) (i := 19) (oi := _) (v := _) ?hi20 (by kernel_rfl) (by kernel_rfl) (by kernel_rfl) (fun _ _ _ h => h) (Or.inl ⟨?hw20, ?hy20⟩) (by assumption) ?hr20
          case hi20 => (simp only [List.getElem?_toArray, List.getElem?_cons_succ, List.getElem?_cons_zero]; rfl)
          case hw20 => rfl
          case hy20 => (intro w hSw; (try dsimp only at hSw); go_simp; first | done | with_reducible rfl)
          try simp only [Act.put, List.setIfInBounds_toArray, List.set_cons_zero, List.set_cons_succ]
          refine wpAnyH_done (by kernel_rfl) ?_ _
          refine NoPanic.normal ?_
          go_wp2_with fail
          go_ret
          exact ⟨rfl, bel⟩
        exact AllReadyH.nil
      refine AllReadyH.cons rfl (fun K hK => ?_) ?_
      · go_simp
        refine (CY.out _).mono ?_
        rintro e wB ⟨rfl, hbB⟩
        have hcB := StampC.bcell hbB
        replace HB := Aside0.mk (below_step bel hbB)
        have hzB := hbB.size
        try simp at hzB
        go_split_ands
        have ccB : wB.cell? ⟨w1.heap.size, 0, none⟩ = some (.int .u8 (s + 1)) := crr hcB
        have qB0 : wB.cell? ⟨w.heap.size, 0, none⟩ = some (.float .f64 t) := crr hcB
        have qB1 : wB.cell? ⟨w.heap.size, 1, none⟩ = some (.int .i64 s) := crr hcB
        have qB2 : wB.cell? ⟨w.heap.size, 2, none⟩ = some (.int .i64 n) := crr hcB
        have qB3 : wB.cell? ⟨w.heap.size, 3, none⟩ = some (.int .i64 d) := crr hcB
        have qB4 : wB.cell? ⟨w.heap.size, 4, none⟩ = some (.int .i64 p) := crr hcB
        have qzB : w.heap.size < wB.heap.size := by omega
        clear hcB
        go_wp2_with fail
        refine hK.out _ _ (by refine ⟨?_, ?_, ?_, ?_, ?_, ?_⟩ <;> first | assumption | (go_keep; done) | (go_simp; done) | (simp; omega)) (fun hHeld => ?_)
        clear hK K
        try simp only [Act.put, List.setIfInBounds_toArray, List.set_cons_zero, List.set_cons_succ]
        refine wpAnyH_ready (fuel := 4) (rs := [8]) (by kernel_rfl) (by simp) ?_
        refine AllReadyH.cons rfl (fun K hK => ?_) ?_
        · go_simp
          refine hK.out _ _ (by refine ⟨?_, ?_, ?_, ?_, ?_, ?_⟩ <;> first | assumption | (go_keep; done) | (go_simp; done) | (simp; omega)) (fun hHeld => ?_)
          clear hK K
          try simp only [Act.put, List.setIfInBounds_toArray, List.set_cons_zero, List.set_cons_succ]
          refine' wpAnyH_take (fuel := 3) (i := 9) (oi := _) (v := _) ?hi21 (by kernel_rfl) (by kernel_rfl) (by kernel_rfl) (fun _ _ _ h => h) (Or.inl ⟨?hw21, ?hy21⟩) (by assumption) ?hr21
          case hi21 => (simp only [List.getElem?_toArray, List.getElem?_cons_succ, List.getElem?_cons_zero]; rfl)
          case hw21 => rfl
          case hy21 => (intro w hSw; (try dsimp only at hSw); go_simp; first | done | with_reducible rfl)
          try simp only [Act.put, List.setIfInBounds_toArray, List.set_cons_zero, List.set_cons_succ]
          refine' wpAnyH_take (fuel := 2) (i := 14) (oi := _) (v := _) ?hi22 (by kernel_rfl) (by kernel_rfl) (by kernel_rfl) (fun _ _ _ h => h) (Or.inl ⟨?hw22, ?hy22⟩) (by assumption) ?hr22
          case hi22 => (simp only [List.getElem?_toArray, List.getElem?_cons_succ, List.getElem?_cons_zero]; rfl)
          case hw22 => rfl
          case hy22 => (intro w hSw; (try dsimp only at hSw); go_simp; first | done | with_reducible rfl)
          try simp only [Act.put, List.setIfInBounds_toArray, List.set_cons_zero, List.set_cons_succ]
          refine' wpAnyH_take (fuel := 1) (i := 18) (oi := _) (v := _) ?hi23 (by kernel_rfl) (by kernel_rfl) (by kernel_rfl) (fun _ _ _ h => h) (Or.inl ⟨?hw23, ?hy23⟩) (by assumption) ?hr23
          case hi23 => (simp only [List.getElem?_toArray, List.getElem?_cons_succ, List.getElem?_cons_zero]; rfl)
          case hw23 => rfl
          case hy23 => (intro w hSw; (try dsimp only at hSw); go_simp; first | done | with_reducible rfl)
          try simp only [Act.put, List.setIfInBounds_toArray, List.set_cons_zero, List.set_cons_succ]
          refine' wpAnyH_take (fuel := 0) (i := 19) (oi := _) (v := _) ?hi24 (by kernel_rfl) (by kernel_rfl) (by kernel_rfl) (fun _ _ _ h => h) (Or.inl ⟨?hw24, ?hy24⟩) (by assumption) ?hr24
          case hi24 => (simp only [List.getElem?_toArray, List.getElem?_cons_succ, List.getElem?_cons_zero]; rfl)
          case hw24 => rfl
          case hy24 => (intro w hSw; (try dsimp only at hSw); go_simp; first | done | with_reducible rfl)
          try simp only [Act.put, List.setIfInBounds_toArray, List.set_cons_zero, List.set_cons_succ]
          refine wpAnyH_done (by kernel_rfl) ?_ _
          refine NoPanic.normal ?_
          go_wp2_with fail
          go_ret
          exact ⟨rfl, bel⟩
        exact AllReadyH.nil
      exact AllReadyH.nil
    exact AllReadyH.nil
  refine AllReadyH.cons rfl (fun K hK => ?_) ?_
  · go_simp
    refine (CN.out _).mono ?_
    rintro e wA ⟨rfl, hbA⟩
    have hcA := StampC.bcell hbA
    replace HB := Aside0.mk (below_step bel hbA)
    have hzA := hbA.size
    try simp at hzA
    go_split_ands
    have qA0 : wA.cell? ⟨w.heap.size, 0, none⟩ = some (.float .f64 t) := crr hcA
    have qA1 : wA.cell? ⟨w.heap.size, 1, none⟩ = some (.int .i64 s) := crr hcA
    have qA2 : wA.cell? ⟨w.heap.size, 2, none⟩ = some (.int .i64 n) := crr hcA
    have qA3 : wA.cell? ⟨w.heap.size, 3, none⟩ = some (.int .i64 d) := crr hcA
    have qA4 : wA.cell? ⟨w.heap.size, 4, none⟩ = some (.int .i64 p) := crr hcA
    have qzA : w.heap.size < wA.heap.size := by omega
    clear hcA
    go_wp2_with fail
    refine hK.out _ _ (by refine ⟨?_, ?_, ?_, ?_, ?_, ?_⟩ <;> first | assumption | (go_keep; done) | (go_simp; done) | (simp; omega)) (fun hHeld => ?_)
    clear hK K
    try simp only [Act.put, List.setIfInBounds_toArray, List.set_cons_zero, List.set_cons_succ]
    refine wpAnyH_ready (fuel := 6) (rs := [7, 17]) (by kernel_rfl) (by simp) ?_
    refine AllReadyH.cons rfl (fun K hK => ?_) ?_
    · go_simp
      refine hK.out _ _ (by refine ⟨?_, ?_, ?_, ?_, ?_, ?_⟩ <;> first | assumption | (go_keep; done) | (go_simp; done) | (simp; omega)) (fun hHeld => ?_)
      clear hK K
      try simp only [Act.put, List.setIfInBounds_toArray, List.set_cons_zero, List.set_cons_succ]
      refine wpAnyH_ready (fuel := 5) (rs := [8, 17]) (by kernel_rfl) (by simp) ?_
      refine AllReadyH.cons rfl (fun K hK => ?_) ?_
      · go_simp
        refine hK.out _ _ (by refine ⟨?_, ?_, ?_, ?_, ?_, ?_⟩ <;> first | assumption | (go_keep; done) | (go_simp; done) | (simp; omega)) (fun hHeld => ?_)
        clear hK K
        try simp only [Act.put, List.setIfInBounds_toArray, List.set_cons_zero, List.set_cons_succ]
        refine' wpAnyH_take (fuel := 4) (i := 9) (oi := _) (v := _) ?hi25 (by kernel_rfl) (by kernel_rfl) (by kernel_rfl) (fun _ _ _ h => h) (Or.inl ⟨?hw25, ?hy25⟩) (by assumption) ?hr25
        case hi25 => (simp only [List.getElem?_toArray, List.getElem?_cons_succ, List.getElem?_cons_zero]; rfl)
        case hw25 => rfl
        case hy25 => (intro w hSw; (try dsimp only at hSw); go_simp; first | done | with_reducible rfl)
        try simp only [Act.put, List.setIfInBounds_toArray, List.set_cons_zero, List.set_cons_succ]
        refine' wpAnyH_take (fuel := 3) (i := 14) (oi := _) (v := _) ?hi26 (by kernel_rfl) (by kernel_rfl) (by kernel_rfl) (fun _ _ _ h => h) (Or.inl ⟨?hw26, ?hy26⟩) (by assumption) ?hr26
        case hi26 => (simp only [List.getElem?_toArray, List.getElem?_cons_succ, List.getElem?_cons_zero]; rfl)
        case hw26 => rfl
        case hy26 => (intro w hSw; (try dsimp only at hSw); go_simp; first | done | with_reducible rfl)
        try simp only [Act.put, List.setIfInBounds_toArray, List.set_cons_zero, List.set_cons_succ]
        refine wpAnyH_ready (fuel := 2) (rs := [17]) (by kernel_rfl) (by simp) ?_
        refine AllReadyH.cons rfl (fun K hK => ?_) ?_
        · go_simp
          refine (CY.out _).mono ?_
          rintro e wB ⟨rfl, hbB⟩
          have hcB := StampC.bcell hbB
          replace HB := Aside0.mk (below_step bel hbB)
          have hzB := hbB.size
          try simp at hzB
          go_split_ands
          have ccB : wB.cell? ⟨wA.heap.size, 0, none⟩ = some (.int .u8 (s + 1)) := crr hcB
          have qB0 : wB.cell? ⟨w.heap.size, 0, none⟩ = some (.float .f64 t) := crr hcB
          have qB1 : wB.cell? ⟨w.heap.size, 1, none⟩ = some (.int .i64 s) := crr hcB
          have qB2 : wB.cell? ⟨w.heap.size, 2, none⟩ = some (.int .i64 n) := crr hcB
          have qB3 : wB.cell? ⟨w.heap.size, 3, none⟩ = some (.int .i64 d) := crr hcB
          have qB4 : wB.cell? ⟨w.heap.size, 4, none⟩ = some (.int .i64 p) := crr hcB
          have qzB : w.heap.size < wB.heap.size := by omega
          clear hcB
          go_wp2_with fail
          refine hK.out _ _ (by refine ⟨?_, ?_, ?_, ?_, ?_, ?_⟩ <;> first | assumption | (go_keep; done) | (go_simp; done) | (simp; omega)) (fun hHeld => ?_)
          clear hK K
          try simp only [Act.put, List.setIfInBounds_toArray, List.set_cons_zero, List.set_cons_succ]
          refine' wpAnyH_take (fuel := 1) (i := 18) (oi := _) (v := _) ?hi27 (by kernel_rfl) (by kernel_rfl) (by kernel_rfl) (fun _ _ _ h => h) (Or.inl ⟨?hw27, ?hy27⟩) (by assumption) ?hr27
          case hi27 => (simp only [List.getElem?_toArray, List.getElem?_cons_succ, List.getElem?_cons_zero]; rfl)
          case hw27 => rfl
          case hy27 => (intro w hSw; (try dsimp only at hSw); go_simp; first | done | with_reducible rfl)
          try simp only [Act.put, List.setIfInBounds_toArray, List.set_cons_zero, List.set_cons_succ]
          refine' wpAnyH_take (fuel := 0) (i := 19) (oi := _) (v := _) ?hi28 (by kernel_rfl) (by kernel_rfl) (by kernel_rfl) (fun _ _ _ h => h) (Or.inl ⟨?hw28, ?hy28⟩) (by assumption) ?hr28
          case hi28 => (simp only [List.getElem?_toArray, List.getElem?_cons_succ, List.getElem?_cons_zero]; rfl)
          case hw28 => rfl
          case hy28 => (intro w hSw; (try dsimp only at hSw); go_simp; first | done | with_reducible rfl)
          try simp only [Act.put, List.setIfInBounds_toArray, List.set_cons_zero, List.set_cons_succ]
          refine wpAnyH_done (by kernel_rfl) ?_ _
          refine NoPanic.normal ?_
          go_wp2_with fail
          go_ret
          exact ⟨rfl, bel⟩
        exact AllReadyH.nil
      refine AllReadyH.cons rfl (fun K hK => ?_) ?_
      · go_simp
        refine (CY.out _).mono ?_
        rintro e wB ⟨rfl, hbB⟩
        have hcB := StampC.bcell hbB
        replace HB := Aside0.mk (below_step bel hbB)
        have hzB := hbB.size
        try simp at hzB
        go_split_ands
        have ccB : wB.cell? ⟨wA.heap.size, 0, none⟩ = some (.int .u8 (s + 1)) := crr hcB
        have qB0 : wB.cell? ⟨w.heap.size, 0, none⟩ = some (.float .f64 t) := crr hcB
        have qB1 : wB.cell? ⟨w.heap.size, 1, none⟩ = some (.int .i64 s) := crr hcB
        have qB2 : wB.cell? ⟨w.heap.size, 2, none⟩ = some (.int .i64 n) := crr hcB
        have qB3 : wB.cell? ⟨w.heap.size, 3, none⟩ = some (.int .i64 d) := crr hcB
        have qB4 : wB.cell? ⟨w.heap.size, 4, none⟩ = some (.int .i64 p) := crr hcB
        have qzB : w.heap.size < wB.heap.size := by omega
        clear hcB
        go_wp2_with fail
        refine hK.out _ _ (by refine ⟨?_, ?_, ?_, ?_, ?_, ?_⟩ <;> first | assumption | (go_keep; done) | (go_simp; done) | (simp; omega)) (fun hHeld => ?_)
        clear hK K
        try simp only [Act.put, List.setIfInBounds_toArray, List.set_cons_zero, List.set_cons_succ]
        refine wpAnyH_ready (fuel := 4) (rs := [8]) (by kernel_rfl) (by simp) ?_
        refine AllReadyH.cons rfl (fun K hK => ?_) ?_
        · go_simp
          refine hK.out _ _ (by refine ⟨?_, ?_, ?_, ?_, ?_, ?_⟩ <;> first | assumption | (go_keep; done) | (go_simp; done) | (simp; omega)) (fun hHeld => ?_)
          clear hK K
          try simp only [Act.put, List.setIfInBounds_toArray, List.set_cons_zero, List.set_cons_succ]
          refine' wpAnyH_take (fuel := 3) (i := 9) (oi := _) (v := _) ?hi29 (by kernel_rfl) (by kernel_rfl) (by kernel_rfl) (fun _ _ _ h => h) (Or.inl ⟨?hw29, ?hy29⟩) (by assumption) ?hr29
          case hi29 => (simp only [List.getElem?_toArray, List.getElem?_cons_succ, List.getElem?_cons_zero]; rfl)
          case hw29 => rfl
          case hy29 => (intro w hSw; (try dsimp only at hSw); go_simp; first | done | with_reducible rfl)
          try simp only [Act.put, List.setIfInBounds_toArray, List.set_cons_zero, List.set_cons_succ]
          refine' wpAnyH_take (fuel := 2) (i := 14) (oi := _) (v := _) ?hi30 (by kernel_rfl) (by kernel_rfl) (by kernel_rfl) (fun _ _ _ h => h) (Or.inl ⟨?hw30, ?hy30⟩) (by assumption) ?hr30
          case hi30 => (simp only [List.getElem?_toArray, List.getElem?_cons_succ, List.getElem?_cons_zero]; rfl)
          case hw30 => rfl
          case hy30 => (intro w hSw; (try dsimp only at hSw); go_simp; first | done | with_reducible rfl)
          try simp only [Act.put, List.setIfInBounds_toArray, List.set_cons_zero, List.set_cons_succ]
          refine' wpAnyH_take (fuel := 1) (i := 18) (oi := _) (v := _) ?hi31 (by kernel_rfl) (by kernel_rfl) (by kernel_rfl) (fun _ _ _ h => h) (Or.inl ⟨?hw31, ?hy31⟩) (by assumption) ?hr31
          case hi31 => (simp only [List.getElem?_toArray, List.getElem?_cons_succ, List.getElem?_cons_zero]; rfl)
          case hw31 => rfl
          case hy31 => (intro w hSw; (try dsimp only at hSw); go_simp; first | done | with_reducible rfl)
          try simp only [Act.put, List.setIfInBounds_toArray, List.set_cons_zero, List.set_cons_succ]
          refine' wpAnyH_take (fuel := 0) (i := 19) (oi := _) (v := _) ?hi32 (by kernel_rfl) (by kernel_rfl) (by kernel_rfl) (fun _ _ _ h => h) (Or.inl ⟨?hw32, ?hy32⟩) (by assumption) ?hr32
          case hi32 => (simp only [List.getElem?_toArray, List.getElem?_cons_succ, List.getElem?_cons_zero]; rfl)
          case hw32 => rfl
          case hy32 => (intro w hSw; (try dsimp only at hSw); go_simp; first | done | with_reducible rfl)
          try simp only [Act.put, List.setIfInBounds_toArray, List.set_cons_zero, List.set_cons_succ]
          refine wpAnyH_done (by kernel_rfl) ?_ _
          refine NoPanic.normal ?_
          go_wp2_with fail
          go_ret
          exact ⟨rfl, bel⟩
        exact AllReadyH.nil
      exact AllReadyH.nil
    refine AllReadyH.cons rfl (fun K hK => ?_) ?_
    · go_simp
      refine (CY.out _).mono ?_
      rintro e wB ⟨rfl, hbB⟩
      have hcB := StampC.bcell hbB
      replace HB := Aside0.mk (below_step bel hbB)
      have hzB := hbB.size
      try simp at hzB
      go_split_ands
      have qB0 : wB.cell? ⟨w.heap.size, 0, none⟩ = some (.float .f64 t) := crr hcB
      have qB1 : wB.cell? ⟨w.heap.size, 1, none⟩ = some (.int .i64 s) := crr hcB
      have qB2 : wB.cell? ⟨w.heap.size, 2, none⟩ = some (.int .i64 n) := crr hcB
      have qB3 : wB.cell? ⟨w.heap.size, 3, none⟩ = some (.int .i64 d) := crr hcB
      have qB4 : wB.cell? ⟨w.heap.size, 4, none⟩ = some (.int .i64 p) := crr hcB
      have qzB : w.heap.size < wB.heap.size := by omega
      clear hcB
      go_wp2_with fail
      refine hK.out _ _ (by refine ⟨?_, ?_, ?_, ?_, ?_, ?_⟩ <;> first | assumption | (go_keep; done) | (go_simp; done) | (simp; omega)) (fun hHeld => ?_)
      clear hK K
      try simp only [Act.put, List.setIfInBounds_toArray, List.set_cons_zero, List.set_cons_succ]
      refine wpAnyH_ready (fuel := 5) (rs := [7]) (by kernel_rfl) (by simp) ?_
      refine AllReadyH.cons rfl (fun K hK => ?_) ?_
      · go_simp
        refine hK.out _ _ (by refine ⟨?_, ?_, ?_, ?_, ?_, ?_⟩ <;> first | assumption | (go_keep; done) | (go_simp; done) | (simp; omega)) (fun hHeld => ?_)
        clear hK K
        try simp only [Act.put, List.setIfInBounds_toArray, List.set_cons_zero, List.set_cons_succ]
        refine wpAnyH_ready (fuel := 4) (rs := [8]) (by kernel_rfl) (by simp) ?_
        refine AllReadyH.cons rfl (fun K hK => ?_) ?_
        · go_simp
          refine hK.out _ _ (by refine ⟨?_, ?_, ?_, ?_, ?_, ?_⟩ <;> first | assumption | (go_keep; done) | (go_simp; done) | (simp; omega)) (fun hHeld => ?_)
          clear hK K
          try simp only [Act.put, List.setIfInBounds_toArray, List.set_cons_zero, List.set_cons_succ]
          refine' wpAnyH_take (fuel := 3) (i := 9) (oi := _) (v := _) ?hi33 (by kernel_rfl) (by kernel_rfl) (by kernel_rfl) (fun _ _ _ h => h) (Or.inl ⟨?hw33, ?hy33⟩) (by assumption) ?hr33
          case hi33 => (simp only [List.getElem?_toArray, List.getElem?_cons_succ, List.getElem?_cons_zero]; rfl)
          case hw33 => rfl
          case hy33 => (intro w hSw; (try dsimp only at hSw); go_simp; first | done | with_reducible rfl)
          try simp only [Act.put, List.setIfInBounds_toArray, List.set_cons_zero, List.set_cons_succ]
          refine' wpAnyH_take (fuel := 2) (i := 14) (oi := _) (v := _) ?hi34 (by kernel_rfl) (by kernel_rfl) (by kernel_rfl) (fun _ _ _ h => h) (Or.inl ⟨?hw34, ?hy34⟩) (by assumption) ?hr34
          case hi34 => (simp only [List.getElem?_toArray, List.getElem?_cons_succ, List.getElem?_cons_zero]; rfl)
          case hw34 => rfl
          case hy34 => (intro w hSw; (try dsimp only at hSw); go_simp; first | done | with_reducible rfl)
          try simp only [Act.put, List.setIfInBounds_toArray, List.set_cons_zero, List.set_cons_succ]
          refine' wpAnyH_take (fuel := 1) (i := 18) (oi := _) (v := _) ?hi35 (by kernel_rfl) (by kernel_rfl) (by kernel_rfl) (fun _ _ _ h => h) (Or.inl ⟨?hw35, ?hy35⟩) (by assumption) ?hr35
          case hi35 => (simp only [List.getElem?_toArray, List.getElem?_cons_succ, List.getElem?_cons_zero]; rfl)
          case hw35 => rfl
          case hy35 => (intro w hSw; (try dsimp only at hSw); go_simp; first | done | with_reducible rfl)
          try simp only [Act.put, List.setIfInBounds_toArray, List.set_cons_zero, List.set_cons_succ]
          refine' wpAnyH_take (fuel := 0) (i := 19) (oi := _) (v := _) ?hi36 (by kernel_rfl) (by kernel_rfl) (by kernel_rfl) (fun _ _ _ h => h) (Or.inl ⟨?hw36, ?hy36⟩) (by assumption) ?hr36
          case hi36 => (simp only [List.getElem?_toArray, List.getElem?_cons_succ, List.getElem?_cons_zero]; rfl)
          case hw36 => rfl
          case hy36 => (intro w hSw; (try dsimp only at hSw); go_simp; first | done | with_reducible rfl)
          try simp only [Act.put, List.setIfInBounds_toArray, List.set_cons_zero, List.set_cons_succ]
          refine wpAnyH_done (by kernel_rfl) ?_ _
          refine NoPanic.normal ?_
          go_wp2_with fail
          go_ret
          exact ⟨rfl, bel⟩
        exact AllReadyH.nil
      exact AllReadyH.nil
    exact AllReadyH.nil
  exact AllReadyH.nil

set_option maxRecDepth 100000 in
set_option maxHeartbeats 4000000 in
theorem event76_walk (t : Nat) (s n d p : Int) (K : ByteArray) (w : World) (hk : K.size = 25) (hd : 0 ≤ d ∧ d < 6) (CK : Aside0 (Gives 75 #[.agg #[.float .f64 t, .int .i64 s, .int .i64 n, .int .i64 d, .int .i64 p]] (.string K))) :
    Calls Try.prog 76 #[.agg #[.float .f64 t, .int .i64 s, .int .i64 n, .int .i64 d, .int .i64 p]] w fun e w' => e = .returned (.string (K.extract 0 17 ++ strOfNums [d] ++ K.extract 17 K.size)) ∧ Below w.heap.size w w' := by
  have hu2 := Try.underlying42
  have hu3 := Try.underlying68
  have e1 : ∀ W : World, (Instr.slice 9 (.string K) none (some (.int .i64 17)) none).run Try.prog W = .ok (.string (K.extract 0 17)) W := fun W => Go.run_slice_string_h (P := Try.prog) W 9 K Try.underlying9 .i64 17 (by omega) (by omega)
  have e2 : ∀ W : World, (Instr.slice 9 (.string K) (some (.int .i64 17)) none none).run Try.prog W = .ok (.string (K.extract 17 K.size)) W := fun W => Go.run_slice_string_l (P := Try.prog) W 9 K Try.underlying9 .i64 17 (by omega) (by omega)
  have hx : (K.extract 0 17).size = 17 := by rw [size_extract' _ _ _ (by omega)]
  have hy : (K.extract 17 K.size).size = 8 := by rw [size_extract' _ _ _ (by omega)]; omega
  have s0 : ¬ 9223372036854775807 < (K.extract 0 17).size + (strOfNums [d]).size := by have := z1 d; omega
  have s1 : ¬ 9223372036854775807 < (K.extract 0 17).size + (strOfNums [d]).size + (K.extract 17 K.size).size := by have := z1 d; omega
  have hw2 : IntKind.u8.wrap d = d := by unfold IntKind.wrap; simp [IntKind.bits, IntKind.signed]; omega
  have cv : ∀ (W : World) (b : Nat), W.cell? ⟨b, 0, none⟩ = some (.int .u8 d) → (convert 101 9 (.slice (some ⟨b, 0, none⟩) 1 1)).run Try.prog W = .ok (.string (strOfNums [d])) W := fun W b h => run_convert_bytes_arg W 101 5 Try.underlying101 Try.underlying5 b 0 1 1 [d] rfl (fun i hi => by (obtain rfl : i = 0 := by omega); exact h) 9 Try.underlying9
  clear hk hd hx hy
  generalize K.extract 0 17 = X at *
  generalize K.extract 17 K.size = Y at *
  generalize strOfNums [d] = B at *
  have HB := Aside0.mk (below_alloc (Below.refl w.heap.size w) (.cells #[.float .f64 t, .int .i64 s, .int .i64 n, .int .i64 d, .int .i64 p] 68))
  have HE := Aside0.mk (Blk.new w 68 #[.float .f64 t, .int .i64 s, .int .i64 n, .int .i64 d, .int .i64 p])
  go_enter Try.func76, Try.ntmps76
  go_wp2_with fail
  refine (CK.out _).mono ?_
  rintro e w1 ⟨rfl, hk⟩
  replace HE : Aside0 (Blk w1 (w.heap.size) 68 #[.float .f64 t, .int .i64 s, .int .i64 n, .int .i64 d, .int .i64 p]) := ⟨Blk.step blk hk⟩
  replace HB := Aside0.mk (below_step bel hk)
  have hsw1 := hk.size
  try simp at hsw1
  clear hk
  obtain ⟨cE0, cE1, cE2, cE3, cE4, fE⟩ := HE.out.c5
  have n1 : w.heap.size < w1.heap.size := by omega
  have n2 : ¬ w.heap.size = w1.heap.size := by omega
  go_wp2_with fail
  refine wp_region_noPanic ?_
  refine wp_region_held_drew (S := (fun w' => w'.cell? ⟨w.heap.size, 0, none⟩ = some (.float .f64 t) ∧ w'.cell? ⟨w.heap.size, 1, none⟩ = some (.int .i64 s) ∧ w'.cell? ⟨w.heap.size, 2, none⟩ = some (.int .i64 n) ∧ w'.cell? ⟨w.heap.size, 3, none⟩ = some (.int .i64 d) ∧ w'.cell? ⟨w.heap.size, 4, none⟩ = some (.int .i64 p) ∧ w.heap.size < w'.heap.size)) (by kernel_rfl) (by refine ⟨?_, ?_, ?_, ?_, ?_, ?_⟩ <;> first | assumption | (go_keep; done) | (simp; omega)) (fun hHeld => ?_)
  change wpAnyH _ _ _ _ _ 12 _ _ _
  refine' wpAnyH_take (fuel := 11) (i := 0) (oi := _) (v := _) ?hi1 (by kernel_rfl) (by kernel_rfl) (by kernel_rfl) (fun _ _ _ h => h) (Or.inl ⟨?hw1, ?hy1⟩) (by assumption) ?hr1
  case hi1 => (simp only [List.getElem?_toArray, List.getElem?_cons_zero]; rfl)
  case hw1 => rfl
  case hy1 => (intro w hSw; (try dsimp only at hSw); go_simp; first | done | with_reducible rfl)
  try simp only [Act.put, List.setIfInBounds_toArray, List.set_cons_zero, List.set_cons_succ]
  refine' wpAnyH_take (fuel := 10) (i := 1) (oi := _) (v := _) ?hi2 (by kernel_rfl) (by kernel_rfl) (by kernel_rfl) (fun _ _ _ h => h) (Or.inl ⟨?hw2, ?hy2⟩) (by assumption) ?hr2
  case hi2 => (simp only [List.getElem?_toArray, List.getElem?_cons_succ, List.getElem?_cons_zero]; rfl)
  case hw2 => rfl
  case hy2 => (intro w hSw; (try dsimp only at hSw); go_simp; first | done | with_reducible rfl)
  try simp only [Act.put, List.setIfInBounds_toArray, List.set_cons_zero, List.set_cons_succ]
  refine' wpAnyH_take (fuel := 9) (i := 2) (oi := _) (v := _) ?hi3 (by kernel_rfl) (by kernel_rfl) (by kernel_rfl) (fun _ _ _ h => h) (Or.inl ⟨?hw3, ?hy3⟩) (by assumption) ?hr3
  case hi3 => (simp only [List.getElem?_toArray, List.getElem?_cons_succ, List.getElem?_cons_zero]; rfl)
  case hw3 => rfl
  case hy3 => (intro w hSw; (try dsimp only at hSw); go_simp; first | done | with_reducible rfl)
  try simp only [Act.put, List.setIfInBounds_toArray, List.set_cons_zero, List.set_cons_succ]
  refine' wpAnyH_take (fuel := 8) (i := 3) (oi := _) (v := _) ?hi4 (by kernel_rfl) (by kernel_rfl) (by kernel_rfl) (fun _ _ _ h => h) (Or.inl ⟨?hw4, ?hy4⟩) (by assumption) ?hr4
  case hi4 => (simp only [List.getElem?_toArray, List.getElem?_cons_succ, List.getElem?_cons_zero]; rfl)
  case hw4 => rfl
  case hy4 => (intro w hSw; (try dsimp only at hSw); go_simp; first | done | with_reducible rfl)
  try simp only [Act.put, List.setIfInBounds_toArray, List.set_cons_zero, List.set_cons_succ]
  refine' wpAnyH_take (fuel := 7) (i := 4) (oi := _) (v := _) ?hi5 (by kernel_rfl) (by kernel_rfl) (by kernel_rfl) (fun _ _ _ h => h) (Or.inl ⟨?hw5, ?hy5⟩) (by assumption) ?hr5
  case hi5 => (simp only [List.getElem?_toArray, List.getElem?_cons_succ, List.getElem?_cons_zero]; rfl)
  case hw5 => rfl
  case hy5 => (intro w hSw; (try dsimp only at hSw); go_simp; first | done | with_reducible rfl)
  try simp only [Act.put, List.setIfInBounds_toArray, List.set_cons_zero, List.set_cons_succ]
  refine' wpAnyH_take (fuel := 6) (i := 8) (oi := _) (v := _) ?hi6 (by kernel_rfl) (by kernel_rfl) (by kernel_rfl) (fun _ _ _ h => h) (Or.inl ⟨?hw6, ?hy6⟩) (by assumption) ?hr6
  case hi6 => (simp only [List.getElem?_toArray, List.getElem?_cons_succ, List.getElem?_cons_zero]; rfl)
  case hw6 => rfl
  case hy6 => (intro w hSw; (try dsimp only at hSw); go_simp; first | done | with_reducible rfl)
  try simp only [Act.put, List.setIfInBounds_toArray, List.set_cons_zero, List.set_cons_succ]
  refine' wpAnyH_take (fuel := 5) (i := 9) (oi := _) (v := _) ?hi7 (by kernel_rfl) (by kernel_rfl) (by kernel_rfl) (fun _ _ _ h => h) (Or.inl ⟨?hw7, ?hy7⟩) (by assumption) ?hr7
  case hi7 => (simp only [List.getElem?_toArray, List.getElem?_cons_succ, List.getElem?_cons_zero]; rfl)
  case hw7 => rfl
  case hy7 => (intro w hSw; (try dsimp only at hSw); go_simp; first | done | with_reducible rfl)
  try simp only [Act.put, List.setIfInBounds_toArray, List.set_cons_zero, List.set_cons_succ]
  refine wpAnyH_ready (fuel := 4) (rs := [5]) (by kernel_rfl) (by simp) ?_
  refine AllReadyH.cons rfl (fun K hK => ?_) ?_
  · go_simp
    refine hK.out _ _ (by refine ⟨?_, ?_, ?_, ?_, ?_, ?_⟩ <;> first | assumption | (go_keep; done) | (go_simp; done) | (simp; omega)) (fun hHeld => ?_)
    clear hK K
    try simp only [Act.put, List.setIfInBounds_toArray, List.set_cons_zero, List.set_cons_succ]
    refine wpAnyH_ready (fuel := 3) (rs := [6]) (by kernel_rfl) (by simp) ?_
    refine AllReadyH.cons rfl (fun K hK => ?_) ?_
    · go_simp
      refine hK.out _ _ (by refine ⟨?_, ?_, ?_, ?_, ?_, ?_⟩ <;> first | assumption | (go_keep; done) | (go_simp; done) | (simp; omega)) (fun hHeld => ?_)
      clear hK K
      try simp only [Act.put, List.setIfInBounds_toArray, List.set_cons_zero, List.set_cons_succ]
      refine' wpAnyH_take (fuel := 2) (i := 7) (oi := _) (v := _) ?hi8 (by kernel_rfl) (by kernel_rfl) (by kernel_rfl) (fun _ _ _ h => h) (Or.inl ⟨?hw8, ?hy8⟩) (by assumption) ?hr8
      case hi8 => (simp only [List.getElem?_toArray, List.getElem?_cons_succ, List.getElem?_cons_zero]; rfl)
      case hw8 => rfl
      case hy8 => (intro w hSw; (try dsimp only at hSw); go_simp; first | done | with_reducible rfl)
      try simp only [Act.put, List.setIfInBounds_toArray, List.set_cons_zero, List.set_cons_succ]
      refine' wpAnyH_take (fuel := 1) (i := 10) (oi := _) (v := _) ?hi9 (by kernel_rfl) (by kernel_rfl) (by kernel_rfl) (fun _ _ _ h => h) (Or.inl ⟨?hw9, ?hy9⟩) (by assumption) ?hr9
      case hi9 => (simp only [List.getElem?_toArray, List.getElem?_cons_succ, List.getElem?_cons_zero]; rfl)
      case hw9 => rfl
      case hy9 => (intro w hSw; (try dsimp only at hSw); go_simp; first | done | with_reducible rfl)
      try simp only [Act.put, List.setIfInBounds_toArray, List.set_cons_zero, List.set_cons_succ]
      refine' wpAnyH_take (fuel := 0) (i := 11) (oi := _) (v := _) ?hi10 (by kernel_rfl) (by kernel_rfl) (by kernel_rfl) (fun _ _ _ h => h) (Or.inl ⟨?hw10, ?hy10⟩) (by assumption) ?hr10
      case hi10 => (simp only [List.getElem?_toArray, List.getElem?_cons_succ, List.getElem?_cons_zero]; rfl)
      case hw10 => rfl
      case hy10 => (intro w hSw; (try dsimp only at hSw); go_simp; first | done | with_reducible rfl)
      try simp only [Act.put, List.setIfInBounds_toArray, List.set_cons_zero, List.set_cons_succ]
      refine wpAnyH_done (by kernel_rfl) ?_ _
      refine NoPanic.normal ?_
      go_wp2_with fail
      go_ret
      exact ⟨rfl, bel⟩
    exact AllReadyH.nil
  exact AllReadyH.nil

theorem ext_left (A B : ByteArray) (k : Nat) (h : A.size = k) : (A ++ B).extract 0 k = A := by
  rw [extract_bn, bn_append, List.drop_zero, Nat.sub_zero, List.take_left' (by rw [bn_length, h]), strOfNums_bn]
theorem ext_right (A B : ByteArray) (k : Nat) (h : A.size = k) : (A ++ B).extract k (A ++ B).size = B := by
  rw [extract_bn, bn_append, List.drop_left' (by rw [bn_length, h]), ByteArray.size_append, h, Nat.add_sub_cancel_left, List.take_of_length_le (by rw [bn_length]; exact Nat.le_refl _), strOfNums_bn]

theorem refI_calls (n : Int) (h : -9223372036854775808 ≤ n ∧ n < 9223372036854775808) (w : World) :
    Calls Try.prog 26 #[.int .i64 n] w fun e w' => e = .returned (.string (strOfNums (be8 (n + 9223372036854775808)))) ∧ Below w.heap.size w w' :=
  PStampKeys.horologeref01_I.calls 9 n _ w (refI_is n h 0)

theorem key75_calls (t : Nat) (s n d p : Int) (ht : t < 18446744073709551616) (hp : -9223372036854775808 ≤ p ∧ p < 9223372036854775808) (hr : rightB t s n d = true) (w : World) :
    Calls Try.prog 75 #[.agg #[.float .f64 t, .int .i64 s, .int .i64 n, .int .i64 d, .int .i64 p]] w fun e w' => e = .returned (.string (evK t s n p)) ∧ Below w.heap.size w w' := by
  obtain ⟨h1, h2, h3, h4⟩ := rightB_true hr
  have e0 : keyS t s n = (strOfNums (be8 (kb (norm t))) ++ strOfNums (be8 (s + 9223372036854775808)) ++ strOfNums (be8 (n + 9223372036854775808)), 0) := if_neg h1
  have hz : (strOfNums (be8 (kb (norm t)))).size = 8 := by rw [size_strOfNums]; rfl
  have g := key75_walk t s n d p (keyS t s n).1 _ _ w (by rw [e0]; show 8 ≤ ByteArray.size (_ ++ _ ++ _); rw [ByteArray.size_append, ByteArray.size_append]; omega) h2 (z8 _) (z8 _) ⟨fun w => by
    have g := key68_calls t s n ht (by omega) (by omega) w
    rw [show (keyS t s n).2 = 0 by rw [e0]] at g
    exact g⟩ ⟨fun w => refI_calls n (by omega) w⟩ ⟨fun w => refI_calls p hp w⟩
  have e2 : (keyS t s n).1.extract 0 8 = strOfNums (be8 (kb (norm t))) := by
    rw [e0]
    show ByteArray.extract (_ ++ _ ++ _) 0 8 = _
    rw [ByteArray.append_assoc, ext_left _ _ 8 hz]
  rw [e2] at g
  exact g

theorem evK_size (t : Nat) (s n p : Int) : (evK t s n p).size = 25 := by
  simp only [evK, ByteArray.size_append, size_strOfNums]; rfl

theorem event76_calls (t : Nat) (s n d p : Int) (ht : t < 18446744073709551616) (hp : -9223372036854775808 ≤ p ∧ p < 9223372036854775808) (hr : rightB t s n d = true) (w : World) :
    Calls Try.prog 76 #[.agg #[.float .f64 t, .int .i64 s, .int .i64 n, .int .i64 d, .int .i64 p]] w fun e w' => e = .returned (.string (evS t s n d p)) ∧ Below w.heap.size w w' := by
  obtain ⟨h1, h2, h3, h4⟩ := rightB_true hr
  have g := event76_walk t s n d p (evK t s n p) w (evK_size _ _ _ _) h4 ⟨fun w => key75_calls t s n d p ht hp hr w⟩
  have hz : (strOfNums (be8 (kb (norm t))) ++ strOfNums [s + 1] ++ strOfNums (be8 (n + 9223372036854775808))).size = 17 := by simp only [ByteArray.size_append, size_strOfNums]; rfl
  have e1 : (evK t s n p).extract 0 17 = strOfNums (be8 (kb (norm t))) ++ strOfNums [s + 1] ++ strOfNums (be8 (n + 9223372036854775808)) := ext_left _ _ 17 hz
  have e2 : (evK t s n p).extract 17 (evK t s n p).size = strOfNums (be8 (p + 9223372036854775808)) := ext_right _ _ 17 hz
  rw [e1, e2] at g
  exact g

end Go.Proofs.Ytlbjcdfognofgaa.RecJ
