/- The reference: events that are read. -/
import Derived.Test.YtlbjcdfognofgaaRecI
import Derived.Test.YtlbjcdfognofgaaRg
import Derived.Deep.DrawnRows
import Derived.Deep.RegionHeld3
namespace Go.Proofs.Ytlbjcdfognofgaa.RecK
open Go.RowKit Go.Proofs.YtlbjcdfognofgaaW.PrintWords Go.Proofs.YtlbjcdfognofgaaW.PrintLast Go.Proofs.YtlbjcdfognofgaaW.PrintMore Go.Proofs.Ytlbjcdfognofgaa.Be Go.Proofs.Ytlbjcdfognofgaa.Fl Go.Proofs.Ytlbjcdfognofgaa.StampA Go.Proofs.Ytlbjcdfognofgaa.StampB Go.Proofs.Ytlbjcdfognofgaa.StampC Go.Proofs.Ytlbjcdfognofgaa.StampD Go.Proofs.Ytlbjcdfognofgaa.StampK Go.Proofs.Ytlbjcdfognofgaa.SRec Go.Proofs.Ytlbjcdfognofgaa.StampQ Go.Proofs.Ytlbjcdfognofgaa.StampR Go.Proofs.Ytlbjcdfognofgaa.Wk Go.Proofs.Ytlbjcdfognofgaa.RecA Go.Proofs.Ytlbjcdfognofgaa.RecB Go.Proofs.Ytlbjcdfognofgaa.RecC Go.Proofs.Ytlbjcdfognofgaa.RecD Go.Proofs.Ytlbjcdfognofgaa.RecE Go.Proofs.Ytlbjcdfognofgaa.RecF Go.Proofs.Ytlbjcdfognofgaa.RecI Go.Proofs.Ytlbjcdfognofgaa.PRecStates
attribute [local go_sem ↓] Go.wp_at_zero Go.wp_at_succ
attribute [local go_sem] run_store_float
set_option linter.unusedVariables false


theorem run_bt (s : ByteArray) (i : Int) (h0 : 0 ≤ i) (h : i < s.size) (W : World) : (Instr.index 9 (.string s) (.int .i64 i)).run Try.prog W = .ok (.int .u8 (bt s i)) W := by
  have hb := bt_at s i (by omega)
  rw [← hb]
  have h1 : (0 ≤ i) = True := by simp [h0]
  have h2 : (i < (s.size : Int)) = True := by simp [h]
  go_simp

/-- What is wrong with how many bytes there are. -/
def cutE (s : ByteArray) (n : Int) : Int := if (s.size : Int) < n then 5 else if n < s.size then 6 else 0

theorem cut_calls (s : ByteArray) (n : Int) (w : World) : Calls Try.prog 97 #[.string s, .int .i64 n] w fun e w' => e = .returned (.int .i64 (cutE s n)) ∧ Below w.heap.size w w' := by
  unfold cutE
  have h0 := Below.refl w.heap.size w
  by_cases h : (s.size : Int) < n
  · rw [if_pos h]
    have h1 : decide ((s.size : Int) < n) = true := decide_eq_true h
    clear h
    go_enter Try.func97, Try.ntmps97
    go_wp2
    go_ret
    exact ⟨rfl, h0⟩
  · rw [if_neg h]
    have h1 : decide ((s.size : Int) < n) = false := decide_eq_false h
    clear h
    by_cases h : n < (s.size : Int)
    · rw [if_pos h]
      have h2 : decide (n < (s.size : Int)) = true := decide_eq_true h
      clear h
      go_enter Try.func97, Try.ntmps97
      go_wp2
      go_ret
      exact ⟨rfl, h0⟩
    · rw [if_neg h]
      have h2 : decide (n < (s.size : Int)) = false := decide_eq_false h
      clear h
      go_enter Try.func97, Try.ntmps97
      go_wp2
      go_ret
      exact ⟨rfl, h0⟩


set_option maxRecDepth 100000 in
set_option maxHeartbeats 1000000 in
theorem of79_cut (s : ByteArray) (d e : Int) (w : World) (he : 1 ≤ e) (CC : Aside0 (Gives 97 #[.string s, .int .i64 25] (.int .i64 e))) :
    Calls Try.prog 79 #[.string s, .int .i64 d] w fun e' w' => e' = .returned (.tuple #[.agg #[.float .f64 0, .int .i64 0, .int .i64 0, .int .i64 0, .int .i64 0], .int .i64 e]) ∧ Below w.heap.size w w' := by
  have hu2 := Try.underlying42
  have hu3 := Try.underlying68
  have hvv := Nat.le_refl w.heap.size
  have HB := Aside0.mk (below_alloc (Below.refl w.heap.size w) (.cells #[.float .f64 0, .int .i64 0, .int .i64 0, .int .i64 0, .int .i64 0] 68))
  have HR := Aside0.mk (Blk.new w 68 #[.float .f64 0, .int .i64 0, .int .i64 0, .int .i64 0, .int .i64 0])
  go_enter Try.func79, Try.ntmps79
  go_wp2_with fail
  refine (CC.out _).mono ?_
  rintro e w1 ⟨rfl, hk⟩
  replace HR : Aside0 (Blk w1 (w.heap.size) 68 #[.float .f64 0, .int .i64 0, .int .i64 0, .int .i64 0, .int .i64 0]) := ⟨Blk.step blk hk⟩
  replace HB := Aside0.mk (below_step bel hk)
  have hsw1 := hk.size
  try simp at hsw1
  clear hk
  obtain ⟨cR0, cR1, cR2, cR3, cR4, fR⟩ := HR.out.c5
  go_wp2_with fail
  have hr3 := Try.results79
  exact bodyPost_ret (v := .tuple #[.agg #[.float .f64 0, .int .i64 0, .int .i64 0, .int .i64 0, .int .i64 0], .int .i64 e]) (by simp [results, Try.results79, go_sem, *]) rfl ⟨rfl, bel⟩


set_option maxRecDepth 100000 in
set_option maxHeartbeats 1000000 in
theorem get77_cut (s : ByteArray) (d e : Int) (w : World) (he : 1 ≤ e) (CC : Aside0 (Gives 97 #[.string s, .int .i64 26] (.int .i64 e))) :
    Calls Try.prog 77 #[.string s] w fun e' w' => e' = .returned (.tuple #[.agg #[.float .f64 0, .int .i64 0, .int .i64 0, .int .i64 0, .int .i64 0], .int .i64 e]) ∧ Below w.heap.size w w' := by
  have hu2 := Try.underlying42
  have hu3 := Try.underlying68
  have hvv := Nat.le_refl w.heap.size
  have HB := Aside0.mk (below_alloc (Below.refl w.heap.size w) (.cells #[.float .f64 0, .int .i64 0, .int .i64 0, .int .i64 0, .int .i64 0] 68))
  have HR := Aside0.mk (Blk.new w 68 #[.float .f64 0, .int .i64 0, .int .i64 0, .int .i64 0, .int .i64 0])
  go_enter Try.func77, Try.ntmps77
  go_wp2_with fail
  refine (CC.out _).mono ?_
  rintro e w1 ⟨rfl, hk⟩
  replace HR : Aside0 (Blk w1 (w.heap.size) 68 #[.float .f64 0, .int .i64 0, .int .i64 0, .int .i64 0, .int .i64 0]) := ⟨Blk.step blk hk⟩
  replace HB := Aside0.mk (below_step bel hk)
  have hsw1 := hk.size
  try simp at hsw1
  clear hk
  obtain ⟨cR0, cR1, cR2, cR3, cR4, fR⟩ := HR.out.c5
  go_wp2_with fail
  have hr3 := Try.results77
  exact bodyPost_ret (v := .tuple #[.agg #[.float .f64 0, .int .i64 0, .int .i64 0, .int .i64 0, .int .i64 0], .int .i64 e]) (by simp [results, Try.results77, go_sem, *]) rfl ⟨rfl, bel⟩


set_option maxRecDepth 100000 in
set_option maxHeartbeats 8000000 in
theorem of79_bad (s Z : ByteArray) (d T' S1 N1 o bad N o1 e1 P o2 e2 : Int) (T : Nat) (w : World) (hs : s.size = 25) (zz : Z.size ≤ 8)
    (CC : Aside0 (Gives 97 #[.string s, .int .i64 25] (.int .i64 0))) (CI : Aside0 (Gives 26 #[.int .i64 0] (.string Z)))
    (CR : Aside0 (Gives 70 #[.string (s.extract 0 8 ++ Z ++ Z), .int .i64 0] (.tuple #[.agg #[.float .f64 T, .int .i64 S1, .int .i64 N1], .int .i64 o, .int .i64 bad])))
    (CN : Aside0 (Gives 51 #[.string s, .int .i64 9] (.tuple #[.int .i64 N, .int .i64 o1, .int .i64 e1]))) (CP : Aside0 (Gives 51 #[.string s, .int .i64 17] (.tuple #[.int .i64 P, .int .i64 o2, .int .i64 e2])))
    (hb : 1 ≤ bad) :
    Calls Try.prog 79 #[.string s, .int .i64 d] w fun e w' => e = .returned (.tuple #[.agg #[.float .f64 0, .int .i64 0, .int .i64 0, .int .i64 0, .int .i64 0], .int .i64 6]) ∧ Below w.heap.size w w' := by
  have hu2 := Try.underlying42
  have hu3 := Try.underlying68
  skip
  have e1 : ∀ W : World, (Instr.slice 9 (.string s) none (some (.int .i64 8)) none).run Try.prog W = .ok (.string (s.extract 0 8)) W := fun W => Go.run_slice_string_h (P := Try.prog) W 9 s Try.underlying9 .i64 8 (by omega) (by omega)
  have hx : (s.extract 0 8).size = 8 := by rw [size_extract' _ _ _ (by omega)]
  have s0 : ¬ 9223372036854775807 < (s.extract 0 8).size + Z.size := by omega
  have s1 : ¬ 9223372036854775807 < (s.extract 0 8).size + Z.size + Z.size := by omega
  have hq := bt_range s 8
  have ei := run_bt s 8 (by decide) (by omega)
  generalize bt s 8 = Q at *
  have hq1 : IntKind.i64.wrap Q = Q := by rw [IntKind.wrap_i64]; omega
  have hq2 : IntKind.i64.wrap (Q - 1) = Q - 1 := by rw [IntKind.wrap_i64]; omega
  clear hs zz hx hq
  generalize s.extract 0 8 = X at *
  have hvv := Nat.le_refl w.heap.size
  have HB := Aside0.mk (below_alloc (Below.refl w.heap.size w) (.cells #[.float .f64 0, .int .i64 0, .int .i64 0, .int .i64 0, .int .i64 0] 68))
  have HR := Aside0.mk (Blk.new w 68 #[.float .f64 0, .int .i64 0, .int .i64 0, .int .i64 0, .int .i64 0])
  go_enter Try.func79, Try.ntmps79
  go_wp2_with fail
  refine (CC.out _).mono ?_
  rintro e w1 ⟨rfl, hk⟩
  replace HR : Aside0 (Blk w1 (w.heap.size) 68 #[.float .f64 0, .int .i64 0, .int .i64 0, .int .i64 0, .int .i64 0]) := ⟨Blk.step blk hk⟩
  replace HB := Aside0.mk (below_step bel hk)
  have hsw1 := hk.size
  try simp at hsw1
  clear hk
  obtain ⟨cR0, cR1, cR2, cR3, cR4, fR⟩ := HR.out.c5
  go_wp2_with fail
  refine wp_region_noPanic ?_
  refine wp_region_held_drew (S := (fun _ => True)) (by kernel_rfl) (by trivial) (fun hHeld => ?_)
  change wpAnyH _ _ _ _ _ 15 _ _ _
  refine Rg.tk (fuel := 14) 0 ?_
  refine Rg.tk (fuel := 13) 1 ?_
  refine wpAnyH_ready (fuel := 12) (rs := [2, 11]) (by kernel_rfl) (by simp) ?_
  refine AllReadyH.cons rfl (fun K hK => ?_) ?_
  · go_simp
    refine (CI.out _).mono ?_
    rintro e wA ⟨rfl, hk⟩
    replace HR : Aside0 (Blk wA (w.heap.size) 68 #[.float .f64 0, .int .i64 0, .int .i64 0, .int .i64 0, .int .i64 0]) := ⟨Blk.step blk hk⟩
    replace HB := Aside0.mk (below_step bel hk)
    have hsA := hk.size
    try simp at hsA
    clear hk
    go_wp2_with fail
    refine hK.out _ _ (by trivial) (fun hHeld => ?_)
    clear hK K
    try simp only [Act.put, List.setIfInBounds_toArray, List.set_cons_zero, List.set_cons_succ]
    refine Rg.tk (fuel := 11) 3 ?_
    refine wpAnyH_ready (fuel := 10) (rs := [4, 11]) (by kernel_rfl) (by simp) ?_
    refine AllReadyH.cons rfl (fun K hK => ?_) ?_
    · go_simp
      refine (CI.out _).mono ?_
      rintro e wB ⟨rfl, hk⟩
      replace HR : Aside0 (Blk wB (w.heap.size) 68 #[.float .f64 0, .int .i64 0, .int .i64 0, .int .i64 0, .int .i64 0]) := ⟨Blk.step blk hk⟩
      replace HB := Aside0.mk (below_step bel hk)
      have hsB := hk.size
      try simp at hsB
      clear hk
      go_wp2_with fail
      refine hK.out _ _ (by trivial) (fun hHeld => ?_)
      clear hK K
      try simp only [Act.put, List.setIfInBounds_toArray, List.set_cons_zero, List.set_cons_succ]
      refine Rg.tk (fuel := 9) 5 ?_
      refine wpAnyH_ready (fuel := 8) (rs := [6, 11]) (by kernel_rfl) (by simp) ?_
      refine AllReadyH.cons rfl (fun K hK => ?_) ?_
      · go_simp
        refine (CR.out _).mono ?_
        rintro e wC ⟨rfl, hk⟩
        replace HR : Aside0 (Blk wC (w.heap.size) 68 #[.float .f64 0, .int .i64 0, .int .i64 0, .int .i64 0, .int .i64 0]) := ⟨Blk.step blk hk⟩
        replace HB := Aside0.mk (below_step bel hk)
        have hsC := hk.size
        try simp at hsC
        clear hk
        go_wp2_with fail
        refine hK.out _ _ (by trivial) (fun hHeld => ?_)
        clear hK K
        try simp only [Act.put, List.setIfInBounds_toArray, List.set_cons_zero, List.set_cons_succ]
        refine Rg.tk (fuel := 7) 7 ?_
        refine Rg.tk (fuel := 6) 8 ?_
        refine Rg.tk (fuel := 5) 9 ?_
        refine Rg.tk (fuel := 4) 10 ?_
        refine wpAnyH_ready (fuel := 3) (rs := [11]) (by kernel_rfl) (by simp) ?_
        refine AllReadyH.cons rfl (fun K hK => ?_) ?_
        · go_simp
          have HX := Aside0.mk ((Blk.new wC 42 #[.float .f64 0, .int .i64 0, .int .i64 0]))
          have nrx : ¬ w.heap.size = wC.heap.size := by omega
          have nxr : ¬ wC.heap.size = w.heap.size := by omega
          have nvx : w.heap.size ≤ wC.heap.size := by omega
          refine hK.out _ _ (by trivial) (fun hHeld => ?_)
          clear hK K
          try simp only [Act.put, List.setIfInBounds_toArray, List.set_cons_zero, List.set_cons_succ]
          refine wpAnyH_ready (fuel := 2) (rs := [12]) (by kernel_rfl) (by simp) ?_
          refine AllReadyH.cons rfl (fun K hK => ?_) ?_
          · go_simp
            replace HX := Aside0.mk (Blk.new wC 42 #[.float .f64 T, .int .i64 S1, .int .i64 N1])
            refine hK.out _ _ (by trivial) (fun hHeld => ?_)
            clear hK K
            try simp only [Act.put, List.setIfInBounds_toArray, List.set_cons_zero, List.set_cons_succ]
            refine Rg.tk (fuel := 1) 13 ?_
            refine Rg.tk (fuel := 0) 14 ?_
            refine wpAnyH_done (by kernel_rfl) ?_ _
            refine NoPanic.normal ?_
            go_wp2_with fail
            refine (CN.out _).mono ?_
            rintro e w3 ⟨rfl, hk⟩
            replace HR : Aside0 (Blk w3 (w.heap.size) 68 #[.float .f64 0, .int .i64 0, .int .i64 0, .int .i64 0, .int .i64 0]) := ⟨Blk.step blk hk⟩
            replace HX : Aside0 (Blk w3 (wC.heap.size) 42 #[.float .f64 T, .int .i64 S1, .int .i64 N1]) := ⟨Blk.step blk hk⟩
            replace HB := Aside0.mk (below_step bel hk)
            have hsw3 := hk.size
            try simp at hsw3
            clear hk
            obtain ⟨cR0, cR1, cR2, cR3, cR4, fR⟩ := HR.out.c5
            obtain ⟨cX0, cX1, cX2, fX⟩ := HX.out.c3
            go_wp2_with fail
            clear cR0 cR1 cR2 cR3 cR4 fR cX0 cX1 cX2 fX
            refine (CP.out _).mono ?_
            rintro e w4 ⟨rfl, hk⟩
            replace HR : Aside0 (Blk w4 (w.heap.size) 68 #[.float .f64 0, .int .i64 0, .int .i64 0, .int .i64 0, .int .i64 0]) := ⟨Blk.step blk hk⟩
            replace HX : Aside0 (Blk w4 (wC.heap.size) 42 #[.float .f64 T, .int .i64 S1, .int .i64 N1]) := ⟨Blk.step blk hk⟩
            replace HB := Aside0.mk (below_step bel hk)
            have hsw4 := hk.size
            try simp at hsw4
            clear hk
            obtain ⟨cR0, cR1, cR2, cR3, cR4, fR⟩ := HR.out.c5
            obtain ⟨cX0, cX1, cX2, fX⟩ := HX.out.c3
            have n4 : wC.heap.size < w4.heap.size := by omega
            have m4 : ¬ wC.heap.size = w4.heap.size := by omega
            have k4 : ¬ w.heap.size = w4.heap.size := by omega
            have k5 : ¬ w4.heap.size = w.heap.size := by omega
            have k6 : w.heap.size ≤ w4.heap.size := by omega
            have k7 : w.heap.size < w4.heap.size := by omega
            go_wp2_with fail
            refine wp_region_noPanic ?_
            refine wp_region_held_drew (S := (fun w' => w'.cell? ⟨wC.heap.size, 0, none⟩ = some (.float .f64 T))) (by kernel_rfl) (by first | assumption | (go_keep; done) | (go_simp; done)) (fun hHeld => ?_)
            change wpAnyH _ _ _ _ _ 13 _ _ _
            refine Rg.tk (fuel := 12) 0 ?_
            refine Rg.tk (fuel := 11) 1 ?_
            refine Rg.tk (fuel := 10) 2 ?_
            refine Rg.tk (fuel := 9) 3 ?_
            refine Rg.tk (fuel := 8) 4 ?_
            refine Rg.tk (fuel := 7) 5 ?_
            refine Rg.tk (fuel := 6) 6 ?_
            refine Rg.tk (fuel := 5) 7 ?_
            refine Rg.tk (fuel := 4) 8 ?_
            refine Rg.tk (fuel := 3) 9 ?_
            refine Rg.tk (fuel := 2) 10 ?_
            refine wpAnyH_ready (fuel := 1) (rs := [11]) (by kernel_rfl) (by simp) ?_
            refine AllReadyH.cons rfl (fun K hK => ?_) ?_
            · go_simp
              refine hK.out _ _ (by first | assumption | (go_keep; done) | (go_simp; done)) (fun hHeld => ?_)
              clear hK K
              try simp only [Act.put, List.setIfInBounds_toArray, List.set_cons_zero, List.set_cons_succ]
              refine wpAnyH_ready (fuel := 0) (rs := [12]) (by kernel_rfl) (by simp) ?_
              refine AllReadyH.cons rfl (fun K hK => ?_) ?_
              · go_simp
                refine hK.out _ _ (by first | assumption | (go_keep; done) | (go_simp; done)) (fun hHeld => ?_)
                clear hK K
                try simp only [Act.put, List.setIfInBounds_toArray, List.set_cons_zero, List.set_cons_succ]
                refine wpAnyH_done (by kernel_rfl) ?_ _
                refine NoPanic.normal ?_
                replace HR : Aside0 (Blk (w4.alloc (.cells #[.float .f64 T, .int .i64 (Q - 1), .int .i64 N, .int .i64 d, .int .i64 P] 68)).drew (w.heap.size) 68 #[.float .f64 0, .int .i64 0, .int .i64 0, .int .i64 0, .int .i64 0]) := ⟨blk⟩
                have HE : Aside0 (Blk (w4.alloc (.cells #[.float .f64 T, .int .i64 (Q - 1), .int .i64 N, .int .i64 d, .int .i64 P] 68)).drew (w4.heap.size) 68 #[.float .f64 T, .int .i64 (Q - 1), .int .i64 N, .int .i64 d, .int .i64 P]) := ⟨(Blk.new w4 68 #[.float .f64 T, .int .i64 (Q - 1), .int .i64 N, .int .i64 d, .int .i64 P]).drew⟩
                go_wp2_with fail
                have hr3 := Try.results79
                exact bodyPost_ret (v := .tuple #[.agg #[.float .f64 0, .int .i64 0, .int .i64 0, .int .i64 0, .int .i64 0], .int .i64 6]) (by simp [results, Try.results79, go_sem, *]) rfl ⟨rfl, bel⟩
              exact AllReadyH.nil
            exact AllReadyH.nil
          exact AllReadyH.nil
        exact AllReadyH.nil
      refine AllReadyH.cons rfl (fun K hK => ?_) ?_
      · go_simp
        have HX := Aside0.mk ((Blk.new wB 42 #[.float .f64 0, .int .i64 0, .int .i64 0]))
        have nrx : ¬ w.heap.size = wB.heap.size := by omega
        have nxr : ¬ wB.heap.size = w.heap.size := by omega
        have nvx : w.heap.size ≤ wB.heap.size := by omega
        refine hK.out _ _ (by trivial) (fun hHeld => ?_)
        clear hK K
        try simp only [Act.put, List.setIfInBounds_toArray, List.set_cons_zero, List.set_cons_succ]
        refine wpAnyH_ready (fuel := 7) (rs := [6]) (by kernel_rfl) (by simp) ?_
        refine AllReadyH.cons rfl (fun K hK => ?_) ?_
        · go_simp
          refine (CR.out _).mono ?_
          rintro e wC ⟨rfl, hk⟩
          replace HR : Aside0 (Blk wC (w.heap.size) 68 #[.float .f64 0, .int .i64 0, .int .i64 0, .int .i64 0, .int .i64 0]) := ⟨Blk.step blk hk⟩
          replace HX : Aside0 (Blk wC (wB.heap.size) 42 #[.float .f64 0, .int .i64 0, .int .i64 0]) := ⟨Blk.step blk hk⟩
          replace HB := Aside0.mk (below_step bel hk)
          have hsC := hk.size
          try simp at hsC
          clear hk
          go_wp2_with fail
          refine hK.out _ _ (by trivial) (fun hHeld => ?_)
          clear hK K
          try simp only [Act.put, List.setIfInBounds_toArray, List.set_cons_zero, List.set_cons_succ]
          refine Rg.tk (fuel := 6) 7 ?_
          refine Rg.tk (fuel := 5) 8 ?_
          refine Rg.tk (fuel := 4) 9 ?_
          refine Rg.tk (fuel := 3) 10 ?_
          refine wpAnyH_ready (fuel := 2) (rs := [12]) (by kernel_rfl) (by simp) ?_
          refine AllReadyH.cons rfl (fun K hK => ?_) ?_
          · obtain ⟨cX0, cX1, cX2, fX⟩ := HX.out.c3
            go_simp
            have HX1 := HX.out
            clear HX cX0 cX1 cX2 fX
            have HX : Aside0 (Blk (((wC.setCell ⟨wB.heap.size, 0, none⟩ (.float .f64 T)).setCell ⟨wB.heap.size, 1, none⟩ (.int .i64 S1)).setCell ⟨wB.heap.size, 2, none⟩ (.int .i64 N1)) (wB.heap.size) 42 #[.float .f64 T, .int .i64 S1, .int .i64 N1]) := ⟨((HX1.set_ 0 _).set_ 1 _).set_ 2 _⟩
            clear HX1
            refine hK.out _ _ (by trivial) (fun hHeld => ?_)
            clear hK K
            try simp only [Act.put, List.setIfInBounds_toArray, List.set_cons_zero, List.set_cons_succ]
            refine Rg.tk (fuel := 1) 13 ?_
            refine Rg.tk (fuel := 0) 14 ?_
            refine wpAnyH_done (by kernel_rfl) ?_ _
            refine NoPanic.normal ?_
            go_wp2_with fail
            refine (CN.out _).mono ?_
            rintro e w3 ⟨rfl, hk⟩
            replace HR : Aside0 (Blk w3 (w.heap.size) 68 #[.float .f64 0, .int .i64 0, .int .i64 0, .int .i64 0, .int .i64 0]) := ⟨Blk.step blk hk⟩
            replace HX : Aside0 (Blk w3 (wB.heap.size) 42 #[.float .f64 T, .int .i64 S1, .int .i64 N1]) := ⟨Blk.step blk hk⟩
            replace HB := Aside0.mk (below_step bel hk)
            have hsw3 := hk.size
            try simp at hsw3
            clear hk
            obtain ⟨cR0, cR1, cR2, cR3, cR4, fR⟩ := HR.out.c5
            obtain ⟨cX0, cX1, cX2, fX⟩ := HX.out.c3
            go_wp2_with fail
            clear cR0 cR1 cR2 cR3 cR4 fR cX0 cX1 cX2 fX
            refine (CP.out _).mono ?_
            rintro e w4 ⟨rfl, hk⟩
            replace HR : Aside0 (Blk w4 (w.heap.size) 68 #[.float .f64 0, .int .i64 0, .int .i64 0, .int .i64 0, .int .i64 0]) := ⟨Blk.step blk hk⟩
            replace HX : Aside0 (Blk w4 (wB.heap.size) 42 #[.float .f64 T, .int .i64 S1, .int .i64 N1]) := ⟨Blk.step blk hk⟩
            replace HB := Aside0.mk (below_step bel hk)
            have hsw4 := hk.size
            try simp at hsw4
            clear hk
            obtain ⟨cR0, cR1, cR2, cR3, cR4, fR⟩ := HR.out.c5
            obtain ⟨cX0, cX1, cX2, fX⟩ := HX.out.c3
            have n4 : wB.heap.size < w4.heap.size := by omega
            have m4 : ¬ wB.heap.size = w4.heap.size := by omega
            have k4 : ¬ w.heap.size = w4.heap.size := by omega
            have k5 : ¬ w4.heap.size = w.heap.size := by omega
            have k6 : w.heap.size ≤ w4.heap.size := by omega
            have k7 : w.heap.size < w4.heap.size := by omega
            go_wp2_with fail
            refine wp_region_noPanic ?_
            refine wp_region_held_drew (S := (fun w' => w'.cell? ⟨wB.heap.size, 0, none⟩ = some (.float .f64 T))) (by kernel_rfl) (by first | assumption | (go_keep; done) | (go_simp; done)) (fun hHeld => ?_)
            change wpAnyH _ _ _ _ _ 13 _ _ _
            refine Rg.tk (fuel := 12) 0 ?_
            refine Rg.tk (fuel := 11) 1 ?_
            refine Rg.tk (fuel := 10) 2 ?_
            refine Rg.tk (fuel := 9) 3 ?_
            refine Rg.tk (fuel := 8) 4 ?_
            refine Rg.tk (fuel := 7) 5 ?_
            refine Rg.tk (fuel := 6) 6 ?_
            refine Rg.tk (fuel := 5) 7 ?_
            refine Rg.tk (fuel := 4) 8 ?_
            refine Rg.tk (fuel := 3) 9 ?_
            refine Rg.tk (fuel := 2) 10 ?_
            refine wpAnyH_ready (fuel := 1) (rs := [11]) (by kernel_rfl) (by simp) ?_
            refine AllReadyH.cons rfl (fun K hK => ?_) ?_
            · go_simp
              refine hK.out _ _ (by first | assumption | (go_keep; done) | (go_simp; done)) (fun hHeld => ?_)
              clear hK K
              try simp only [Act.put, List.setIfInBounds_toArray, List.set_cons_zero, List.set_cons_succ]
              refine wpAnyH_ready (fuel := 0) (rs := [12]) (by kernel_rfl) (by simp) ?_
              refine AllReadyH.cons rfl (fun K hK => ?_) ?_
              · go_simp
                refine hK.out _ _ (by first | assumption | (go_keep; done) | (go_simp; done)) (fun hHeld => ?_)
                clear hK K
                try simp only [Act.put, List.setIfInBounds_toArray, List.set_cons_zero, List.set_cons_succ]
                refine wpAnyH_done (by kernel_rfl) ?_ _
                refine NoPanic.normal ?_
                replace HR : Aside0 (Blk (w4.alloc (.cells #[.float .f64 T, .int .i64 (Q - 1), .int .i64 N, .int .i64 d, .int .i64 P] 68)).drew (w.heap.size) 68 #[.float .f64 0, .int .i64 0, .int .i64 0, .int .i64 0, .int .i64 0]) := ⟨blk⟩
                have HE : Aside0 (Blk (w4.alloc (.cells #[.float .f64 T, .int .i64 (Q - 1), .int .i64 N, .int .i64 d, .int .i64 P] 68)).drew (w4.heap.size) 68 #[.float .f64 T, .int .i64 (Q - 1), .int .i64 N, .int .i64 d, .int .i64 P]) := ⟨(Blk.new w4 68 #[.float .f64 T, .int .i64 (Q - 1), .int .i64 N, .int .i64 d, .int .i64 P]).drew⟩
                go_wp2_with fail
                have hr3 := Try.results79
                exact bodyPost_ret (v := .tuple #[.agg #[.float .f64 0, .int .i64 0, .int .i64 0, .int .i64 0, .int .i64 0], .int .i64 6]) (by simp [results, Try.results79, go_sem, *]) rfl ⟨rfl, bel⟩
              exact AllReadyH.nil
            exact AllReadyH.nil
          exact AllReadyH.nil
        exact AllReadyH.nil
      exact AllReadyH.nil
    refine AllReadyH.cons rfl (fun K hK => ?_) ?_
    · go_simp
      have HX := Aside0.mk ((Blk.new wA 42 #[.float .f64 0, .int .i64 0, .int .i64 0]))
      have nrx : ¬ w.heap.size = wA.heap.size := by omega
      have nxr : ¬ wA.heap.size = w.heap.size := by omega
      have nvx : w.heap.size ≤ wA.heap.size := by omega
      refine hK.out _ _ (by trivial) (fun hHeld => ?_)
      clear hK K
      try simp only [Act.put, List.setIfInBounds_toArray, List.set_cons_zero, List.set_cons_succ]
      refine wpAnyH_ready (fuel := 9) (rs := [4]) (by kernel_rfl) (by simp) ?_
      refine AllReadyH.cons rfl (fun K hK => ?_) ?_
      · go_simp
        refine (CI.out _).mono ?_
        rintro e wB ⟨rfl, hk⟩
        replace HR : Aside0 (Blk wB (w.heap.size) 68 #[.float .f64 0, .int .i64 0, .int .i64 0, .int .i64 0, .int .i64 0]) := ⟨Blk.step blk hk⟩
        replace HX : Aside0 (Blk wB (wA.heap.size) 42 #[.float .f64 0, .int .i64 0, .int .i64 0]) := ⟨Blk.step blk hk⟩
        replace HB := Aside0.mk (below_step bel hk)
        have hsB := hk.size
        try simp at hsB
        clear hk
        go_wp2_with fail
        refine hK.out _ _ (by trivial) (fun hHeld => ?_)
        clear hK K
        try simp only [Act.put, List.setIfInBounds_toArray, List.set_cons_zero, List.set_cons_succ]
        refine Rg.tk (fuel := 8) 5 ?_
        refine wpAnyH_ready (fuel := 7) (rs := [6]) (by kernel_rfl) (by simp) ?_
        refine AllReadyH.cons rfl (fun K hK => ?_) ?_
        · go_simp
          refine (CR.out _).mono ?_
          rintro e wC ⟨rfl, hk⟩
          replace HR : Aside0 (Blk wC (w.heap.size) 68 #[.float .f64 0, .int .i64 0, .int .i64 0, .int .i64 0, .int .i64 0]) := ⟨Blk.step blk hk⟩
          replace HX : Aside0 (Blk wC (wA.heap.size) 42 #[.float .f64 0, .int .i64 0, .int .i64 0]) := ⟨Blk.step blk hk⟩
          replace HB := Aside0.mk (below_step bel hk)
          have hsC := hk.size
          try simp at hsC
          clear hk
          go_wp2_with fail
          refine hK.out _ _ (by trivial) (fun hHeld => ?_)
          clear hK K
          try simp only [Act.put, List.setIfInBounds_toArray, List.set_cons_zero, List.set_cons_succ]
          refine Rg.tk (fuel := 6) 7 ?_
          refine Rg.tk (fuel := 5) 8 ?_
          refine Rg.tk (fuel := 4) 9 ?_
          refine Rg.tk (fuel := 3) 10 ?_
          refine wpAnyH_ready (fuel := 2) (rs := [12]) (by kernel_rfl) (by simp) ?_
          refine AllReadyH.cons rfl (fun K hK => ?_) ?_
          · obtain ⟨cX0, cX1, cX2, fX⟩ := HX.out.c3
            go_simp
            have HX1 := HX.out
            clear HX cX0 cX1 cX2 fX
            have HX : Aside0 (Blk (((wC.setCell ⟨wA.heap.size, 0, none⟩ (.float .f64 T)).setCell ⟨wA.heap.size, 1, none⟩ (.int .i64 S1)).setCell ⟨wA.heap.size, 2, none⟩ (.int .i64 N1)) (wA.heap.size) 42 #[.float .f64 T, .int .i64 S1, .int .i64 N1]) := ⟨((HX1.set_ 0 _).set_ 1 _).set_ 2 _⟩
            clear HX1
            refine hK.out _ _ (by trivial) (fun hHeld => ?_)
            clear hK K
            try simp only [Act.put, List.setIfInBounds_toArray, List.set_cons_zero, List.set_cons_succ]
            refine Rg.tk (fuel := 1) 13 ?_
            refine Rg.tk (fuel := 0) 14 ?_
            refine wpAnyH_done (by kernel_rfl) ?_ _
            refine NoPanic.normal ?_
            go_wp2_with fail
            refine (CN.out _).mono ?_
            rintro e w3 ⟨rfl, hk⟩
            replace HR : Aside0 (Blk w3 (w.heap.size) 68 #[.float .f64 0, .int .i64 0, .int .i64 0, .int .i64 0, .int .i64 0]) := ⟨Blk.step blk hk⟩
            replace HX : Aside0 (Blk w3 (wA.heap.size) 42 #[.float .f64 T, .int .i64 S1, .int .i64 N1]) := ⟨Blk.step blk hk⟩
            replace HB := Aside0.mk (below_step bel hk)
            have hsw3 := hk.size
            try simp at hsw3
            clear hk
            obtain ⟨cR0, cR1, cR2, cR3, cR4, fR⟩ := HR.out.c5
            obtain ⟨cX0, cX1, cX2, fX⟩ := HX.out.c3
            go_wp2_with fail
            clear cR0 cR1 cR2 cR3 cR4 fR cX0 cX1 cX2 fX
            refine (CP.out _).mono ?_
            rintro e w4 ⟨rfl, hk⟩
            replace HR : Aside0 (Blk w4 (w.heap.size) 68 #[.float .f64 0, .int .i64 0, .int .i64 0, .int .i64 0, .int .i64 0]) := ⟨Blk.step blk hk⟩
            replace HX : Aside0 (Blk w4 (wA.heap.size) 42 #[.float .f64 T, .int .i64 S1, .int .i64 N1]) := ⟨Blk.step blk hk⟩
            replace HB := Aside0.mk (below_step bel hk)
            have hsw4 := hk.size
            try simp at hsw4
            clear hk
            obtain ⟨cR0, cR1, cR2, cR3, cR4, fR⟩ := HR.out.c5
            obtain ⟨cX0, cX1, cX2, fX⟩ := HX.out.c3
            have n4 : wA.heap.size < w4.heap.size := by omega
            have m4 : ¬ wA.heap.size = w4.heap.size := by omega
            have k4 : ¬ w.heap.size = w4.heap.size := by omega
            have k5 : ¬ w4.heap.size = w.heap.size := by omega
            have k6 : w.heap.size ≤ w4.heap.size := by omega
            have k7 : w.heap.size < w4.heap.size := by omega
            go_wp2_with fail
            refine wp_region_noPanic ?_
            refine wp_region_held_drew (S := (fun w' => w'.cell? ⟨wA.heap.size, 0, none⟩ = some (.float .f64 T))) (by kernel_rfl) (by first | assumption | (go_keep; done) | (go_simp; done)) (fun hHeld => ?_)
            change wpAnyH _ _ _ _ _ 13 _ _ _
            refine Rg.tk (fuel := 12) 0 ?_
            refine Rg.tk (fuel := 11) 1 ?_
            refine Rg.tk (fuel := 10) 2 ?_
            refine Rg.tk (fuel := 9) 3 ?_
            refine Rg.tk (fuel := 8) 4 ?_
            refine Rg.tk (fuel := 7) 5 ?_
            refine Rg.tk (fuel := 6) 6 ?_
            refine Rg.tk (fuel := 5) 7 ?_
            refine Rg.tk (fuel := 4) 8 ?_
            refine Rg.tk (fuel := 3) 9 ?_
            refine Rg.tk (fuel := 2) 10 ?_
            refine wpAnyH_ready (fuel := 1) (rs := [11]) (by kernel_rfl) (by simp) ?_
            refine AllReadyH.cons rfl (fun K hK => ?_) ?_
            · go_simp
              refine hK.out _ _ (by first | assumption | (go_keep; done) | (go_simp; done)) (fun hHeld => ?_)
              clear hK K
              try simp only [Act.put, List.setIfInBounds_toArray, List.set_cons_zero, List.set_cons_succ]
              refine wpAnyH_ready (fuel := 0) (rs := [12]) (by kernel_rfl) (by simp) ?_
              refine AllReadyH.cons rfl (fun K hK => ?_) ?_
              · go_simp
                refine hK.out _ _ (by first | assumption | (go_keep; done) | (go_simp; done)) (fun hHeld => ?_)
                clear hK K
                try simp only [Act.put, List.setIfInBounds_toArray, List.set_cons_zero, List.set_cons_succ]
                refine wpAnyH_done (by kernel_rfl) ?_ _
                refine NoPanic.normal ?_
                replace HR : Aside0 (Blk (w4.alloc (.cells #[.float .f64 T, .int .i64 (Q - 1), .int .i64 N, .int .i64 d, .int .i64 P] 68)).drew (w.heap.size) 68 #[.float .f64 0, .int .i64 0, .int .i64 0, .int .i64 0, .int .i64 0]) := ⟨blk⟩
                have HE : Aside0 (Blk (w4.alloc (.cells #[.float .f64 T, .int .i64 (Q - 1), .int .i64 N, .int .i64 d, .int .i64 P] 68)).drew (w4.heap.size) 68 #[.float .f64 T, .int .i64 (Q - 1), .int .i64 N, .int .i64 d, .int .i64 P]) := ⟨(Blk.new w4 68 #[.float .f64 T, .int .i64 (Q - 1), .int .i64 N, .int .i64 d, .int .i64 P]).drew⟩
                go_wp2_with fail
                have hr3 := Try.results79
                exact bodyPost_ret (v := .tuple #[.agg #[.float .f64 0, .int .i64 0, .int .i64 0, .int .i64 0, .int .i64 0], .int .i64 6]) (by simp [results, Try.results79, go_sem, *]) rfl ⟨rfl, bel⟩
              exact AllReadyH.nil
            exact AllReadyH.nil
          exact AllReadyH.nil
        exact AllReadyH.nil
      exact AllReadyH.nil
    exact AllReadyH.nil
  refine AllReadyH.cons rfl (fun K hK => ?_) ?_
  · go_simp
    have HX := Aside0.mk ((Blk.new w1 42 #[.float .f64 0, .int .i64 0, .int .i64 0]).drew)
    have nrx : ¬ w.heap.size = w1.heap.size := by omega
    have nxr : ¬ w1.heap.size = w.heap.size := by omega
    have nvx : w.heap.size ≤ w1.heap.size := by omega
    refine hK.out _ _ (by trivial) (fun hHeld => ?_)
    clear hK K
    try simp only [Act.put, List.setIfInBounds_toArray, List.set_cons_zero, List.set_cons_succ]
    refine wpAnyH_ready (fuel := 11) (rs := [2]) (by kernel_rfl) (by simp) ?_
    refine AllReadyH.cons rfl (fun K hK => ?_) ?_
    · go_simp
      refine (CI.out _).mono ?_
      rintro e wA ⟨rfl, hk⟩
      replace HR : Aside0 (Blk wA (w.heap.size) 68 #[.float .f64 0, .int .i64 0, .int .i64 0, .int .i64 0, .int .i64 0]) := ⟨Blk.step blk hk⟩
      replace HX : Aside0 (Blk wA (w1.heap.size) 42 #[.float .f64 0, .int .i64 0, .int .i64 0]) := ⟨Blk.step blk hk⟩
      replace HB := Aside0.mk (below_step bel hk)
      have hsA := hk.size
      try simp at hsA
      clear hk
      go_wp2_with fail
      refine hK.out _ _ (by trivial) (fun hHeld => ?_)
      clear hK K
      try simp only [Act.put, List.setIfInBounds_toArray, List.set_cons_zero, List.set_cons_succ]
      refine Rg.tk (fuel := 10) 3 ?_
      refine wpAnyH_ready (fuel := 9) (rs := [4]) (by kernel_rfl) (by simp) ?_
      refine AllReadyH.cons rfl (fun K hK => ?_) ?_
      · go_simp
        refine (CI.out _).mono ?_
        rintro e wB ⟨rfl, hk⟩
        replace HR : Aside0 (Blk wB (w.heap.size) 68 #[.float .f64 0, .int .i64 0, .int .i64 0, .int .i64 0, .int .i64 0]) := ⟨Blk.step blk hk⟩
        replace HX : Aside0 (Blk wB (w1.heap.size) 42 #[.float .f64 0, .int .i64 0, .int .i64 0]) := ⟨Blk.step blk hk⟩
        replace HB := Aside0.mk (below_step bel hk)
        have hsB := hk.size
        try simp at hsB
        clear hk
        go_wp2_with fail
        refine hK.out _ _ (by trivial) (fun hHeld => ?_)
        clear hK K
        try simp only [Act.put, List.setIfInBounds_toArray, List.set_cons_zero, List.set_cons_succ]
        refine Rg.tk (fuel := 8) 5 ?_
        refine wpAnyH_ready (fuel := 7) (rs := [6]) (by kernel_rfl) (by simp) ?_
        refine AllReadyH.cons rfl (fun K hK => ?_) ?_
        · go_simp
          refine (CR.out _).mono ?_
          rintro e wC ⟨rfl, hk⟩
          replace HR : Aside0 (Blk wC (w.heap.size) 68 #[.float .f64 0, .int .i64 0, .int .i64 0, .int .i64 0, .int .i64 0]) := ⟨Blk.step blk hk⟩
          replace HX : Aside0 (Blk wC (w1.heap.size) 42 #[.float .f64 0, .int .i64 0, .int .i64 0]) := ⟨Blk.step blk hk⟩
          replace HB := Aside0.mk (below_step bel hk)
          have hsC := hk.size
          try simp at hsC
          clear hk
          go_wp2_with fail
          refine hK.out _ _ (by trivial) (fun hHeld => ?_)
          clear hK K
          try simp only [Act.put, List.setIfInBounds_toArray, List.set_cons_zero, List.set_cons_succ]
          refine Rg.tk (fuel := 6) 7 ?_
          refine Rg.tk (fuel := 5) 8 ?_
          refine Rg.tk (fuel := 4) 9 ?_
          refine Rg.tk (fuel := 3) 10 ?_
          refine wpAnyH_ready (fuel := 2) (rs := [12]) (by kernel_rfl) (by simp) ?_
          refine AllReadyH.cons rfl (fun K hK => ?_) ?_
          · obtain ⟨cX0, cX1, cX2, fX⟩ := HX.out.c3
            go_simp
            have HX1 := HX.out
            clear HX cX0 cX1 cX2 fX
            have HX : Aside0 (Blk (((wC.setCell ⟨w1.heap.size, 0, none⟩ (.float .f64 T)).setCell ⟨w1.heap.size, 1, none⟩ (.int .i64 S1)).setCell ⟨w1.heap.size, 2, none⟩ (.int .i64 N1)) (w1.heap.size) 42 #[.float .f64 T, .int .i64 S1, .int .i64 N1]) := ⟨((HX1.set_ 0 _).set_ 1 _).set_ 2 _⟩
            clear HX1
            refine hK.out _ _ (by trivial) (fun hHeld => ?_)
            clear hK K
            try simp only [Act.put, List.setIfInBounds_toArray, List.set_cons_zero, List.set_cons_succ]
            refine Rg.tk (fuel := 1) 13 ?_
            refine Rg.tk (fuel := 0) 14 ?_
            refine wpAnyH_done (by kernel_rfl) ?_ _
            refine NoPanic.normal ?_
            go_wp2_with fail
            refine (CN.out _).mono ?_
            rintro e w3 ⟨rfl, hk⟩
            replace HR : Aside0 (Blk w3 (w.heap.size) 68 #[.float .f64 0, .int .i64 0, .int .i64 0, .int .i64 0, .int .i64 0]) := ⟨Blk.step blk hk⟩
            replace HX : Aside0 (Blk w3 (w1.heap.size) 42 #[.float .f64 T, .int .i64 S1, .int .i64 N1]) := ⟨Blk.step blk hk⟩
            replace HB := Aside0.mk (below_step bel hk)
            have hsw3 := hk.size
            try simp at hsw3
            clear hk
            obtain ⟨cR0, cR1, cR2, cR3, cR4, fR⟩ := HR.out.c5
            obtain ⟨cX0, cX1, cX2, fX⟩ := HX.out.c3
            go_wp2_with fail
            clear cR0 cR1 cR2 cR3 cR4 fR cX0 cX1 cX2 fX
            refine (CP.out _).mono ?_
            rintro e w4 ⟨rfl, hk⟩
            replace HR : Aside0 (Blk w4 (w.heap.size) 68 #[.float .f64 0, .int .i64 0, .int .i64 0, .int .i64 0, .int .i64 0]) := ⟨Blk.step blk hk⟩
            replace HX : Aside0 (Blk w4 (w1.heap.size) 42 #[.float .f64 T, .int .i64 S1, .int .i64 N1]) := ⟨Blk.step blk hk⟩
            replace HB := Aside0.mk (below_step bel hk)
            have hsw4 := hk.size
            try simp at hsw4
            clear hk
            obtain ⟨cR0, cR1, cR2, cR3, cR4, fR⟩ := HR.out.c5
            obtain ⟨cX0, cX1, cX2, fX⟩ := HX.out.c3
            have n4 : w1.heap.size < w4.heap.size := by omega
            have m4 : ¬ w1.heap.size = w4.heap.size := by omega
            have k4 : ¬ w.heap.size = w4.heap.size := by omega
            have k5 : ¬ w4.heap.size = w.heap.size := by omega
            have k6 : w.heap.size ≤ w4.heap.size := by omega
            have k7 : w.heap.size < w4.heap.size := by omega
            go_wp2_with fail
            refine wp_region_noPanic ?_
            refine wp_region_held_drew (S := (fun w' => w'.cell? ⟨w1.heap.size, 0, none⟩ = some (.float .f64 T))) (by kernel_rfl) (by first | assumption | (go_keep; done) | (go_simp; done)) (fun hHeld => ?_)
            change wpAnyH _ _ _ _ _ 13 _ _ _
            refine Rg.tk (fuel := 12) 0 ?_
            refine Rg.tk (fuel := 11) 1 ?_
            refine Rg.tk (fuel := 10) 2 ?_
            refine Rg.tk (fuel := 9) 3 ?_
            refine Rg.tk (fuel := 8) 4 ?_
            refine Rg.tk (fuel := 7) 5 ?_
            refine Rg.tk (fuel := 6) 6 ?_
            refine Rg.tk (fuel := 5) 7 ?_
            refine Rg.tk (fuel := 4) 8 ?_
            refine Rg.tk (fuel := 3) 9 ?_
            refine Rg.tk (fuel := 2) 10 ?_
            refine wpAnyH_ready (fuel := 1) (rs := [11]) (by kernel_rfl) (by simp) ?_
            refine AllReadyH.cons rfl (fun K hK => ?_) ?_
            · go_simp
              refine hK.out _ _ (by first | assumption | (go_keep; done) | (go_simp; done)) (fun hHeld => ?_)
              clear hK K
              try simp only [Act.put, List.setIfInBounds_toArray, List.set_cons_zero, List.set_cons_succ]
              refine wpAnyH_ready (fuel := 0) (rs := [12]) (by kernel_rfl) (by simp) ?_
              refine AllReadyH.cons rfl (fun K hK => ?_) ?_
              · go_simp
                refine hK.out _ _ (by first | assumption | (go_keep; done) | (go_simp; done)) (fun hHeld => ?_)
                clear hK K
                try simp only [Act.put, List.setIfInBounds_toArray, List.set_cons_zero, List.set_cons_succ]
                refine wpAnyH_done (by kernel_rfl) ?_ _
                refine NoPanic.normal ?_
                replace HR : Aside0 (Blk (w4.alloc (.cells #[.float .f64 T, .int .i64 (Q - 1), .int .i64 N, .int .i64 d, .int .i64 P] 68)).drew (w.heap.size) 68 #[.float .f64 0, .int .i64 0, .int .i64 0, .int .i64 0, .int .i64 0]) := ⟨blk⟩
                have HE : Aside0 (Blk (w4.alloc (.cells #[.float .f64 T, .int .i64 (Q - 1), .int .i64 N, .int .i64 d, .int .i64 P] 68)).drew (w4.heap.size) 68 #[.float .f64 T, .int .i64 (Q - 1), .int .i64 N, .int .i64 d, .int .i64 P]) := ⟨(Blk.new w4 68 #[.float .f64 T, .int .i64 (Q - 1), .int .i64 N, .int .i64 d, .int .i64 P]).drew⟩
                go_wp2_with fail
                have hr3 := Try.results79
                exact bodyPost_ret (v := .tuple #[.agg #[.float .f64 0, .int .i64 0, .int .i64 0, .int .i64 0, .int .i64 0], .int .i64 6]) (by simp [results, Try.results79, go_sem, *]) rfl ⟨rfl, bel⟩
              exact AllReadyH.nil
            exact AllReadyH.nil
          exact AllReadyH.nil
        exact AllReadyH.nil
      exact AllReadyH.nil
    exact AllReadyH.nil
  exact AllReadyH.nil


set_option maxRecDepth 100000 in
set_option maxHeartbeats 8000000 in
theorem of79_no (s Z : ByteArray) (d T' S1 N1 o bad N o1 e1 P o2 e2 : Int) (T : Nat) (w : World) (hs : s.size = 25) (zz : Z.size ≤ 8)
    (CC : Aside0 (Gives 97 #[.string s, .int .i64 25] (.int .i64 0))) (CI : Aside0 (Gives 26 #[.int .i64 0] (.string Z)))
    (CR : Aside0 (Gives 70 #[.string (s.extract 0 8 ++ Z ++ Z), .int .i64 0] (.tuple #[.agg #[.float .f64 T, .int .i64 S1, .int .i64 N1], .int .i64 o, .int .i64 bad])))
    (CN : Aside0 (Gives 51 #[.string s, .int .i64 9] (.tuple #[.int .i64 N, .int .i64 o1, .int .i64 e1]))) (CP : Aside0 (Gives 51 #[.string s, .int .i64 17] (.tuple #[.int .i64 P, .int .i64 o2, .int .i64 e2])))
    (hb : bad ≤ 0 ∧ 0 ≤ bad) (CG : Aside0 (Gives 57 #[.agg #[.float .f64 T, .int .i64 (bt s 8 - 1), .int .i64 N, .int .i64 d, .int .i64 P]] (.bool false))) :
    Calls Try.prog 79 #[.string s, .int .i64 d] w fun e w' => e = .returned (.tuple #[.agg #[.float .f64 0, .int .i64 0, .int .i64 0, .int .i64 0, .int .i64 0], .int .i64 6]) ∧ Below w.heap.size w w' := by
  have hu2 := Try.underlying42
  have hu3 := Try.underlying68
  obtain ⟨hb1, hb2⟩ := hb
  have e1 : ∀ W : World, (Instr.slice 9 (.string s) none (some (.int .i64 8)) none).run Try.prog W = .ok (.string (s.extract 0 8)) W := fun W => Go.run_slice_string_h (P := Try.prog) W 9 s Try.underlying9 .i64 8 (by omega) (by omega)
  have hx : (s.extract 0 8).size = 8 := by rw [size_extract' _ _ _ (by omega)]
  have s0 : ¬ 9223372036854775807 < (s.extract 0 8).size + Z.size := by omega
  have s1 : ¬ 9223372036854775807 < (s.extract 0 8).size + Z.size + Z.size := by omega
  have hq := bt_range s 8
  have ei := run_bt s 8 (by decide) (by omega)
  generalize bt s 8 = Q at *
  have hq1 : IntKind.i64.wrap Q = Q := by rw [IntKind.wrap_i64]; omega
  have hq2 : IntKind.i64.wrap (Q - 1) = Q - 1 := by rw [IntKind.wrap_i64]; omega
  clear hs zz hx hq
  generalize s.extract 0 8 = X at *
  have hvv := Nat.le_refl w.heap.size
  have HB := Aside0.mk (below_alloc (Below.refl w.heap.size w) (.cells #[.float .f64 0, .int .i64 0, .int .i64 0, .int .i64 0, .int .i64 0] 68))
  have HR := Aside0.mk (Blk.new w 68 #[.float .f64 0, .int .i64 0, .int .i64 0, .int .i64 0, .int .i64 0])
  go_enter Try.func79, Try.ntmps79
  go_wp2_with fail
  refine (CC.out _).mono ?_
  rintro e w1 ⟨rfl, hk⟩
  replace HR : Aside0 (Blk w1 (w.heap.size) 68 #[.float .f64 0, .int .i64 0, .int .i64 0, .int .i64 0, .int .i64 0]) := ⟨Blk.step blk hk⟩
  replace HB := Aside0.mk (below_step bel hk)
  have hsw1 := hk.size
  try simp at hsw1
  clear hk
  obtain ⟨cR0, cR1, cR2, cR3, cR4, fR⟩ := HR.out.c5
  go_wp2_with fail
  refine wp_region_noPanic ?_
  refine wp_region_held_drew (S := (fun _ => True)) (by kernel_rfl) (by trivial) (fun hHeld => ?_)
  change wpAnyH _ _ _ _ _ 15 _ _ _
  refine Rg.tk (fuel := 14) 0 ?_
  refine Rg.tk (fuel := 13) 1 ?_
  refine wpAnyH_ready (fuel := 12) (rs := [2, 11]) (by kernel_rfl) (by simp) ?_
  refine AllReadyH.cons rfl (fun K hK => ?_) ?_
  · go_simp
    refine (CI.out _).mono ?_
    rintro e wA ⟨rfl, hk⟩
    replace HR : Aside0 (Blk wA (w.heap.size) 68 #[.float .f64 0, .int .i64 0, .int .i64 0, .int .i64 0, .int .i64 0]) := ⟨Blk.step blk hk⟩
    replace HB := Aside0.mk (below_step bel hk)
    have hsA := hk.size
    try simp at hsA
    clear hk
    go_wp2_with fail
    refine hK.out _ _ (by trivial) (fun hHeld => ?_)
    clear hK K
    try simp only [Act.put, List.setIfInBounds_toArray, List.set_cons_zero, List.set_cons_succ]
    refine Rg.tk (fuel := 11) 3 ?_
    refine wpAnyH_ready (fuel := 10) (rs := [4, 11]) (by kernel_rfl) (by simp) ?_
    refine AllReadyH.cons rfl (fun K hK => ?_) ?_
    · go_simp
      refine (CI.out _).mono ?_
      rintro e wB ⟨rfl, hk⟩
      replace HR : Aside0 (Blk wB (w.heap.size) 68 #[.float .f64 0, .int .i64 0, .int .i64 0, .int .i64 0, .int .i64 0]) := ⟨Blk.step blk hk⟩
      replace HB := Aside0.mk (below_step bel hk)
      have hsB := hk.size
      try simp at hsB
      clear hk
      go_wp2_with fail
      refine hK.out _ _ (by trivial) (fun hHeld => ?_)
      clear hK K
      try simp only [Act.put, List.setIfInBounds_toArray, List.set_cons_zero, List.set_cons_succ]
      refine Rg.tk (fuel := 9) 5 ?_
      refine wpAnyH_ready (fuel := 8) (rs := [6, 11]) (by kernel_rfl) (by simp) ?_
      refine AllReadyH.cons rfl (fun K hK => ?_) ?_
      · go_simp
        refine (CR.out _).mono ?_
        rintro e wC ⟨rfl, hk⟩
        replace HR : Aside0 (Blk wC (w.heap.size) 68 #[.float .f64 0, .int .i64 0, .int .i64 0, .int .i64 0, .int .i64 0]) := ⟨Blk.step blk hk⟩
        replace HB := Aside0.mk (below_step bel hk)
        have hsC := hk.size
        try simp at hsC
        clear hk
        go_wp2_with fail
        refine hK.out _ _ (by trivial) (fun hHeld => ?_)
        clear hK K
        try simp only [Act.put, List.setIfInBounds_toArray, List.set_cons_zero, List.set_cons_succ]
        refine Rg.tk (fuel := 7) 7 ?_
        refine Rg.tk (fuel := 6) 8 ?_
        refine Rg.tk (fuel := 5) 9 ?_
        refine Rg.tk (fuel := 4) 10 ?_
        refine wpAnyH_ready (fuel := 3) (rs := [11]) (by kernel_rfl) (by simp) ?_
        refine AllReadyH.cons rfl (fun K hK => ?_) ?_
        · go_simp
          have HX := Aside0.mk ((Blk.new wC 42 #[.float .f64 0, .int .i64 0, .int .i64 0]))
          have nrx : ¬ w.heap.size = wC.heap.size := by omega
          have nxr : ¬ wC.heap.size = w.heap.size := by omega
          have nvx : w.heap.size ≤ wC.heap.size := by omega
          refine hK.out _ _ (by trivial) (fun hHeld => ?_)
          clear hK K
          try simp only [Act.put, List.setIfInBounds_toArray, List.set_cons_zero, List.set_cons_succ]
          refine wpAnyH_ready (fuel := 2) (rs := [12]) (by kernel_rfl) (by simp) ?_
          refine AllReadyH.cons rfl (fun K hK => ?_) ?_
          · go_simp
            replace HX := Aside0.mk (Blk.new wC 42 #[.float .f64 T, .int .i64 S1, .int .i64 N1])
            refine hK.out _ _ (by trivial) (fun hHeld => ?_)
            clear hK K
            try simp only [Act.put, List.setIfInBounds_toArray, List.set_cons_zero, List.set_cons_succ]
            refine Rg.tk (fuel := 1) 13 ?_
            refine Rg.tk (fuel := 0) 14 ?_
            refine wpAnyH_done (by kernel_rfl) ?_ _
            refine NoPanic.normal ?_
            go_wp2_with fail
            refine (CN.out _).mono ?_
            rintro e w3 ⟨rfl, hk⟩
            replace HR : Aside0 (Blk w3 (w.heap.size) 68 #[.float .f64 0, .int .i64 0, .int .i64 0, .int .i64 0, .int .i64 0]) := ⟨Blk.step blk hk⟩
            replace HX : Aside0 (Blk w3 (wC.heap.size) 42 #[.float .f64 T, .int .i64 S1, .int .i64 N1]) := ⟨Blk.step blk hk⟩
            replace HB := Aside0.mk (below_step bel hk)
            have hsw3 := hk.size
            try simp at hsw3
            clear hk
            obtain ⟨cR0, cR1, cR2, cR3, cR4, fR⟩ := HR.out.c5
            obtain ⟨cX0, cX1, cX2, fX⟩ := HX.out.c3
            go_wp2_with fail
            clear cR0 cR1 cR2 cR3 cR4 fR cX0 cX1 cX2 fX
            refine (CP.out _).mono ?_
            rintro e w4 ⟨rfl, hk⟩
            replace HR : Aside0 (Blk w4 (w.heap.size) 68 #[.float .f64 0, .int .i64 0, .int .i64 0, .int .i64 0, .int .i64 0]) := ⟨Blk.step blk hk⟩
            replace HX : Aside0 (Blk w4 (wC.heap.size) 42 #[.float .f64 T, .int .i64 S1, .int .i64 N1]) := ⟨Blk.step blk hk⟩
            replace HB := Aside0.mk (below_step bel hk)
            have hsw4 := hk.size
            try simp at hsw4
            clear hk
            obtain ⟨cR0, cR1, cR2, cR3, cR4, fR⟩ := HR.out.c5
            obtain ⟨cX0, cX1, cX2, fX⟩ := HX.out.c3
            have n4 : wC.heap.size < w4.heap.size := by omega
            have m4 : ¬ wC.heap.size = w4.heap.size := by omega
            have k4 : ¬ w.heap.size = w4.heap.size := by omega
            have k5 : ¬ w4.heap.size = w.heap.size := by omega
            have k6 : w.heap.size ≤ w4.heap.size := by omega
            have k7 : w.heap.size < w4.heap.size := by omega
            go_wp2_with fail
            refine wp_region_noPanic ?_
            refine wp_region_held_drew (S := (fun w' => w'.cell? ⟨wC.heap.size, 0, none⟩ = some (.float .f64 T))) (by kernel_rfl) (by first | assumption | (go_keep; done) | (go_simp; done)) (fun hHeld => ?_)
            change wpAnyH _ _ _ _ _ 13 _ _ _
            refine Rg.tk (fuel := 12) 0 ?_
            refine Rg.tk (fuel := 11) 1 ?_
            refine Rg.tk (fuel := 10) 2 ?_
            refine Rg.tk (fuel := 9) 3 ?_
            refine Rg.tk (fuel := 8) 4 ?_
            refine Rg.tk (fuel := 7) 5 ?_
            refine Rg.tk (fuel := 6) 6 ?_
            refine Rg.tk (fuel := 5) 7 ?_
            refine Rg.tk (fuel := 4) 8 ?_
            refine Rg.tk (fuel := 3) 9 ?_
            refine Rg.tk (fuel := 2) 10 ?_
            refine wpAnyH_ready (fuel := 1) (rs := [11]) (by kernel_rfl) (by simp) ?_
            refine AllReadyH.cons rfl (fun K hK => ?_) ?_
            · go_simp
              refine hK.out _ _ (by first | assumption | (go_keep; done) | (go_simp; done)) (fun hHeld => ?_)
              clear hK K
              try simp only [Act.put, List.setIfInBounds_toArray, List.set_cons_zero, List.set_cons_succ]
              refine wpAnyH_ready (fuel := 0) (rs := [12]) (by kernel_rfl) (by simp) ?_
              refine AllReadyH.cons rfl (fun K hK => ?_) ?_
              · go_simp
                refine hK.out _ _ (by first | assumption | (go_keep; done) | (go_simp; done)) (fun hHeld => ?_)
                clear hK K
                try simp only [Act.put, List.setIfInBounds_toArray, List.set_cons_zero, List.set_cons_succ]
                refine wpAnyH_done (by kernel_rfl) ?_ _
                refine NoPanic.normal ?_
                replace HR : Aside0 (Blk (w4.alloc (.cells #[.float .f64 T, .int .i64 (Q - 1), .int .i64 N, .int .i64 d, .int .i64 P] 68)).drew (w.heap.size) 68 #[.float .f64 0, .int .i64 0, .int .i64 0, .int .i64 0, .int .i64 0]) := ⟨blk⟩
                have HE : Aside0 (Blk (w4.alloc (.cells #[.float .f64 T, .int .i64 (Q - 1), .int .i64 N, .int .i64 d, .int .i64 P] 68)).drew (w4.heap.size) 68 #[.float .f64 T, .int .i64 (Q - 1), .int .i64 N, .int .i64 d, .int .i64 P]) := ⟨(Blk.new w4 68 #[.float .f64 T, .int .i64 (Q - 1), .int .i64 N, .int .i64 d, .int .i64 P]).drew⟩
                go_wp2_with fail
                clear cR0 cR1 cR2 cR3 cR4 fR cX0 cX1 cX2 fX
                refine (CG.out _).mono ?_
                rintro e w5 ⟨rfl, hk⟩
                replace HR : Aside0 (Blk w5 (w.heap.size) 68 #[.float .f64 0, .int .i64 0, .int .i64 0, .int .i64 0, .int .i64 0]) := ⟨Blk.step blk hk⟩
                replace HE : Aside0 (Blk w5 (w4.heap.size) 68 #[.float .f64 T, .int .i64 (Q - 1), .int .i64 N, .int .i64 d, .int .i64 P]) := ⟨Blk.step blk hk⟩
                replace HB := Aside0.mk (below_step bel hk)
                have hsw5 := hk.size
                try simp at hsw5
                clear hk
                obtain ⟨cR0, cR1, cR2, cR3, cR4, fR⟩ := HR.out.c5
                obtain ⟨cE0, cE1, cE2, cE3, cE4, fE⟩ := HE.out.c5
                go_wp2_with fail
                have hr3 := Try.results79
                exact bodyPost_ret (v := .tuple #[.agg #[.float .f64 0, .int .i64 0, .int .i64 0, .int .i64 0, .int .i64 0], .int .i64 6]) (by simp [results, Try.results79, go_sem, *]) rfl ⟨rfl, bel⟩
              exact AllReadyH.nil
            exact AllReadyH.nil
          exact AllReadyH.nil
        exact AllReadyH.nil
      refine AllReadyH.cons rfl (fun K hK => ?_) ?_
      · go_simp
        have HX := Aside0.mk ((Blk.new wB 42 #[.float .f64 0, .int .i64 0, .int .i64 0]))
        have nrx : ¬ w.heap.size = wB.heap.size := by omega
        have nxr : ¬ wB.heap.size = w.heap.size := by omega
        have nvx : w.heap.size ≤ wB.heap.size := by omega
        refine hK.out _ _ (by trivial) (fun hHeld => ?_)
        clear hK K
        try simp only [Act.put, List.setIfInBounds_toArray, List.set_cons_zero, List.set_cons_succ]
        refine wpAnyH_ready (fuel := 7) (rs := [6]) (by kernel_rfl) (by simp) ?_
        refine AllReadyH.cons rfl (fun K hK => ?_) ?_
        · go_simp
          refine (CR.out _).mono ?_
          rintro e wC ⟨rfl, hk⟩
          replace HR : Aside0 (Blk wC (w.heap.size) 68 #[.float .f64 0, .int .i64 0, .int .i64 0, .int .i64 0, .int .i64 0]) := ⟨Blk.step blk hk⟩
          replace HX : Aside0 (Blk wC (wB.heap.size) 42 #[.float .f64 0, .int .i64 0, .int .i64 0]) := ⟨Blk.step blk hk⟩
          replace HB := Aside0.mk (below_step bel hk)
          have hsC := hk.size
          try simp at hsC
          clear hk
          go_wp2_with fail
          refine hK.out _ _ (by trivial) (fun hHeld => ?_)
          clear hK K
          try simp only [Act.put, List.setIfInBounds_toArray, List.set_cons_zero, List.set_cons_succ]
          refine Rg.tk (fuel := 6) 7 ?_
          refine Rg.tk (fuel := 5) 8 ?_
          refine Rg.tk (fuel := 4) 9 ?_
          refine Rg.tk (fuel := 3) 10 ?_
          refine wpAnyH_ready (fuel := 2) (rs := [12]) (by kernel_rfl) (by simp) ?_
          refine AllReadyH.cons rfl (fun K hK => ?_) ?_
          · obtain ⟨cX0, cX1, cX2, fX⟩ := HX.out.c3
            go_simp
            have HX1 := HX.out
            clear HX cX0 cX1 cX2 fX
            have HX : Aside0 (Blk (((wC.setCell ⟨wB.heap.size, 0, none⟩ (.float .f64 T)).setCell ⟨wB.heap.size, 1, none⟩ (.int .i64 S1)).setCell ⟨wB.heap.size, 2, none⟩ (.int .i64 N1)) (wB.heap.size) 42 #[.float .f64 T, .int .i64 S1, .int .i64 N1]) := ⟨((HX1.set_ 0 _).set_ 1 _).set_ 2 _⟩
            clear HX1
            refine hK.out _ _ (by trivial) (fun hHeld => ?_)
            clear hK K
            try simp only [Act.put, List.setIfInBounds_toArray, List.set_cons_zero, List.set_cons_succ]
            refine Rg.tk (fuel := 1) 13 ?_
            refine Rg.tk (fuel := 0) 14 ?_
            refine wpAnyH_done (by kernel_rfl) ?_ _
            refine NoPanic.normal ?_
            go_wp2_with fail
            refine (CN.out _).mono ?_
            rintro e w3 ⟨rfl, hk⟩
            replace HR : Aside0 (Blk w3 (w.heap.size) 68 #[.float .f64 0, .int .i64 0, .int .i64 0, .int .i64 0, .int .i64 0]) := ⟨Blk.step blk hk⟩
            replace HX : Aside0 (Blk w3 (wB.heap.size) 42 #[.float .f64 T, .int .i64 S1, .int .i64 N1]) := ⟨Blk.step blk hk⟩
            replace HB := Aside0.mk (below_step bel hk)
            have hsw3 := hk.size
            try simp at hsw3
            clear hk
            obtain ⟨cR0, cR1, cR2, cR3, cR4, fR⟩ := HR.out.c5
            obtain ⟨cX0, cX1, cX2, fX⟩ := HX.out.c3
            go_wp2_with fail
            clear cR0 cR1 cR2 cR3 cR4 fR cX0 cX1 cX2 fX
            refine (CP.out _).mono ?_
            rintro e w4 ⟨rfl, hk⟩
            replace HR : Aside0 (Blk w4 (w.heap.size) 68 #[.float .f64 0, .int .i64 0, .int .i64 0, .int .i64 0, .int .i64 0]) := ⟨Blk.step blk hk⟩
            replace HX : Aside0 (Blk w4 (wB.heap.size) 42 #[.float .f64 T, .int .i64 S1, .int .i64 N1]) := ⟨Blk.step blk hk⟩
            replace HB := Aside0.mk (below_step bel hk)
            have hsw4 := hk.size
            try simp at hsw4
            clear hk
            obtain ⟨cR0, cR1, cR2, cR3, cR4, fR⟩ := HR.out.c5
            obtain ⟨cX0, cX1, cX2, fX⟩ := HX.out.c3
            have n4 : wB.heap.size < w4.heap.size := by omega
            have m4 : ¬ wB.heap.size = w4.heap.size := by omega
            have k4 : ¬ w.heap.size = w4.heap.size := by omega
            have k5 : ¬ w4.heap.size = w.heap.size := by omega
            have k6 : w.heap.size ≤ w4.heap.size := by omega
            have k7 : w.heap.size < w4.heap.size := by omega
            go_wp2_with fail
            refine wp_region_noPanic ?_
            refine wp_region_held_drew (S := (fun w' => w'.cell? ⟨wB.heap.size, 0, none⟩ = some (.float .f64 T))) (by kernel_rfl) (by first | assumption | (go_keep; done) | (go_simp; done)) (fun hHeld => ?_)
            change wpAnyH _ _ _ _ _ 13 _ _ _
            refine Rg.tk (fuel := 12) 0 ?_
            refine Rg.tk (fuel := 11) 1 ?_
            refine Rg.tk (fuel := 10) 2 ?_
            refine Rg.tk (fuel := 9) 3 ?_
            refine Rg.tk (fuel := 8) 4 ?_
            refine Rg.tk (fuel := 7) 5 ?_
            refine Rg.tk (fuel := 6) 6 ?_
            refine Rg.tk (fuel := 5) 7 ?_
            refine Rg.tk (fuel := 4) 8 ?_
            refine Rg.tk (fuel := 3) 9 ?_
            refine Rg.tk (fuel := 2) 10 ?_
            refine wpAnyH_ready (fuel := 1) (rs := [11]) (by kernel_rfl) (by simp) ?_
            refine AllReadyH.cons rfl (fun K hK => ?_) ?_
            · go_simp
              refine hK.out _ _ (by first | assumption | (go_keep; done) | (go_simp; done)) (fun hHeld => ?_)
              clear hK K
              try simp only [Act.put, List.setIfInBounds_toArray, List.set_cons_zero, List.set_cons_succ]
              refine wpAnyH_ready (fuel := 0) (rs := [12]) (by kernel_rfl) (by simp) ?_
              refine AllReadyH.cons rfl (fun K hK => ?_) ?_
              · go_simp
                refine hK.out _ _ (by first | assumption | (go_keep; done) | (go_simp; done)) (fun hHeld => ?_)
                clear hK K
                try simp only [Act.put, List.setIfInBounds_toArray, List.set_cons_zero, List.set_cons_succ]
                refine wpAnyH_done (by kernel_rfl) ?_ _
                refine NoPanic.normal ?_
                replace HR : Aside0 (Blk (w4.alloc (.cells #[.float .f64 T, .int .i64 (Q - 1), .int .i64 N, .int .i64 d, .int .i64 P] 68)).drew (w.heap.size) 68 #[.float .f64 0, .int .i64 0, .int .i64 0, .int .i64 0, .int .i64 0]) := ⟨blk⟩
                have HE : Aside0 (Blk (w4.alloc (.cells #[.float .f64 T, .int .i64 (Q - 1), .int .i64 N, .int .i64 d, .int .i64 P] 68)).drew (w4.heap.size) 68 #[.float .f64 T, .int .i64 (Q - 1), .int .i64 N, .int .i64 d, .int .i64 P]) := ⟨(Blk.new w4 68 #[.float .f64 T, .int .i64 (Q - 1), .int .i64 N, .int .i64 d, .int .i64 P]).drew⟩
                go_wp2_with fail
                clear cR0 cR1 cR2 cR3 cR4 fR cX0 cX1 cX2 fX
                refine (CG.out _).mono ?_
                rintro e w5 ⟨rfl, hk⟩
                replace HR : Aside0 (Blk w5 (w.heap.size) 68 #[.float .f64 0, .int .i64 0, .int .i64 0, .int .i64 0, .int .i64 0]) := ⟨Blk.step blk hk⟩
                replace HE : Aside0 (Blk w5 (w4.heap.size) 68 #[.float .f64 T, .int .i64 (Q - 1), .int .i64 N, .int .i64 d, .int .i64 P]) := ⟨Blk.step blk hk⟩
                replace HB := Aside0.mk (below_step bel hk)
                have hsw5 := hk.size
                try simp at hsw5
                clear hk
                obtain ⟨cR0, cR1, cR2, cR3, cR4, fR⟩ := HR.out.c5
                obtain ⟨cE0, cE1, cE2, cE3, cE4, fE⟩ := HE.out.c5
                go_wp2_with fail
                have hr3 := Try.results79
                exact bodyPost_ret (v := .tuple #[.agg #[.float .f64 0, .int .i64 0, .int .i64 0, .int .i64 0, .int .i64 0], .int .i64 6]) (by simp [results, Try.results79, go_sem, *]) rfl ⟨rfl, bel⟩
              exact AllReadyH.nil
            exact AllReadyH.nil
          exact AllReadyH.nil
        exact AllReadyH.nil
      exact AllReadyH.nil
    refine AllReadyH.cons rfl (fun K hK => ?_) ?_
    · go_simp
      have HX := Aside0.mk ((Blk.new wA 42 #[.float .f64 0, .int .i64 0, .int .i64 0]))
      have nrx : ¬ w.heap.size = wA.heap.size := by omega
      have nxr : ¬ wA.heap.size = w.heap.size := by omega
      have nvx : w.heap.size ≤ wA.heap.size := by omega
      refine hK.out _ _ (by trivial) (fun hHeld => ?_)
      clear hK K
      try simp only [Act.put, List.setIfInBounds_toArray, List.set_cons_zero, List.set_cons_succ]
      refine wpAnyH_ready (fuel := 9) (rs := [4]) (by kernel_rfl) (by simp) ?_
      refine AllReadyH.cons rfl (fun K hK => ?_) ?_
      · go_simp
        refine (CI.out _).mono ?_
        rintro e wB ⟨rfl, hk⟩
        replace HR : Aside0 (Blk wB (w.heap.size) 68 #[.float .f64 0, .int .i64 0, .int .i64 0, .int .i64 0, .int .i64 0]) := ⟨Blk.step blk hk⟩
        replace HX : Aside0 (Blk wB (wA.heap.size) 42 #[.float .f64 0, .int .i64 0, .int .i64 0]) := ⟨Blk.step blk hk⟩
        replace HB := Aside0.mk (below_step bel hk)
        have hsB := hk.size
        try simp at hsB
        clear hk
        go_wp2_with fail
        refine hK.out _ _ (by trivial) (fun hHeld => ?_)
        clear hK K
        try simp only [Act.put, List.setIfInBounds_toArray, List.set_cons_zero, List.set_cons_succ]
        refine Rg.tk (fuel := 8) 5 ?_
        refine wpAnyH_ready (fuel := 7) (rs := [6]) (by kernel_rfl) (by simp) ?_
        refine AllReadyH.cons rfl (fun K hK => ?_) ?_
        · go_simp
          refine (CR.out _).mono ?_
          rintro e wC ⟨rfl, hk⟩
          replace HR : Aside0 (Blk wC (w.heap.size) 68 #[.float .f64 0, .int .i64 0, .int .i64 0, .int .i64 0, .int .i64 0]) := ⟨Blk.step blk hk⟩
          replace HX : Aside0 (Blk wC (wA.heap.size) 42 #[.float .f64 0, .int .i64 0, .int .i64 0]) := ⟨Blk.step blk hk⟩
          replace HB := Aside0.mk (below_step bel hk)
          have hsC := hk.size
          try simp at hsC
          clear hk
          go_wp2_with fail
          refine hK.out _ _ (by trivial) (fun hHeld => ?_)
          clear hK K
          try simp only [Act.put, List.setIfInBounds_toArray, List.set_cons_zero, List.set_cons_succ]
          refine Rg.tk (fuel := 6) 7 ?_
          refine Rg.tk (fuel := 5) 8 ?_
          refine Rg.tk (fuel := 4) 9 ?_
          refine Rg.tk (fuel := 3) 10 ?_
          refine wpAnyH_ready (fuel := 2) (rs := [12]) (by kernel_rfl) (by simp) ?_
          refine AllReadyH.cons rfl (fun K hK => ?_) ?_
          · obtain ⟨cX0, cX1, cX2, fX⟩ := HX.out.c3
            go_simp
            have HX1 := HX.out
            clear HX cX0 cX1 cX2 fX
            have HX : Aside0 (Blk (((wC.setCell ⟨wA.heap.size, 0, none⟩ (.float .f64 T)).setCell ⟨wA.heap.size, 1, none⟩ (.int .i64 S1)).setCell ⟨wA.heap.size, 2, none⟩ (.int .i64 N1)) (wA.heap.size) 42 #[.float .f64 T, .int .i64 S1, .int .i64 N1]) := ⟨((HX1.set_ 0 _).set_ 1 _).set_ 2 _⟩
            clear HX1
            refine hK.out _ _ (by trivial) (fun hHeld => ?_)
            clear hK K
            try simp only [Act.put, List.setIfInBounds_toArray, List.set_cons_zero, List.set_cons_succ]
            refine Rg.tk (fuel := 1) 13 ?_
            refine Rg.tk (fuel := 0) 14 ?_
            refine wpAnyH_done (by kernel_rfl) ?_ _
            refine NoPanic.normal ?_
            go_wp2_with fail
            refine (CN.out _).mono ?_
            rintro e w3 ⟨rfl, hk⟩
            replace HR : Aside0 (Blk w3 (w.heap.size) 68 #[.float .f64 0, .int .i64 0, .int .i64 0, .int .i64 0, .int .i64 0]) := ⟨Blk.step blk hk⟩
            replace HX : Aside0 (Blk w3 (wA.heap.size) 42 #[.float .f64 T, .int .i64 S1, .int .i64 N1]) := ⟨Blk.step blk hk⟩
            replace HB := Aside0.mk (below_step bel hk)
            have hsw3 := hk.size
            try simp at hsw3
            clear hk
            obtain ⟨cR0, cR1, cR2, cR3, cR4, fR⟩ := HR.out.c5
            obtain ⟨cX0, cX1, cX2, fX⟩ := HX.out.c3
            go_wp2_with fail
            clear cR0 cR1 cR2 cR3 cR4 fR cX0 cX1 cX2 fX
            refine (CP.out _).mono ?_
            rintro e w4 ⟨rfl, hk⟩
            replace HR : Aside0 (Blk w4 (w.heap.size) 68 #[.float .f64 0, .int .i64 0, .int .i64 0, .int .i64 0, .int .i64 0]) := ⟨Blk.step blk hk⟩
            replace HX : Aside0 (Blk w4 (wA.heap.size) 42 #[.float .f64 T, .int .i64 S1, .int .i64 N1]) := ⟨Blk.step blk hk⟩
            replace HB := Aside0.mk (below_step bel hk)
            have hsw4 := hk.size
            try simp at hsw4
            clear hk
            obtain ⟨cR0, cR1, cR2, cR3, cR4, fR⟩ := HR.out.c5
            obtain ⟨cX0, cX1, cX2, fX⟩ := HX.out.c3
            have n4 : wA.heap.size < w4.heap.size := by omega
            have m4 : ¬ wA.heap.size = w4.heap.size := by omega
            have k4 : ¬ w.heap.size = w4.heap.size := by omega
            have k5 : ¬ w4.heap.size = w.heap.size := by omega
            have k6 : w.heap.size ≤ w4.heap.size := by omega
            have k7 : w.heap.size < w4.heap.size := by omega
            go_wp2_with fail
            refine wp_region_noPanic ?_
            refine wp_region_held_drew (S := (fun w' => w'.cell? ⟨wA.heap.size, 0, none⟩ = some (.float .f64 T))) (by kernel_rfl) (by first | assumption | (go_keep; done) | (go_simp; done)) (fun hHeld => ?_)
            change wpAnyH _ _ _ _ _ 13 _ _ _
            refine Rg.tk (fuel := 12) 0 ?_
            refine Rg.tk (fuel := 11) 1 ?_
            refine Rg.tk (fuel := 10) 2 ?_
            refine Rg.tk (fuel := 9) 3 ?_
            refine Rg.tk (fuel := 8) 4 ?_
            refine Rg.tk (fuel := 7) 5 ?_
            refine Rg.tk (fuel := 6) 6 ?_
            refine Rg.tk (fuel := 5) 7 ?_
            refine Rg.tk (fuel := 4) 8 ?_
            refine Rg.tk (fuel := 3) 9 ?_
            refine Rg.tk (fuel := 2) 10 ?_
            refine wpAnyH_ready (fuel := 1) (rs := [11]) (by kernel_rfl) (by simp) ?_
            refine AllReadyH.cons rfl (fun K hK => ?_) ?_
            · go_simp
              refine hK.out _ _ (by first | assumption | (go_keep; done) | (go_simp; done)) (fun hHeld => ?_)
              clear hK K
              try simp only [Act.put, List.setIfInBounds_toArray, List.set_cons_zero, List.set_cons_succ]
              refine wpAnyH_ready (fuel := 0) (rs := [12]) (by kernel_rfl) (by simp) ?_
              refine AllReadyH.cons rfl (fun K hK => ?_) ?_
              · go_simp
                refine hK.out _ _ (by first | assumption | (go_keep; done) | (go_simp; done)) (fun hHeld => ?_)
                clear hK K
                try simp only [Act.put, List.setIfInBounds_toArray, List.set_cons_zero, List.set_cons_succ]
                refine wpAnyH_done (by kernel_rfl) ?_ _
                refine NoPanic.normal ?_
                replace HR : Aside0 (Blk (w4.alloc (.cells #[.float .f64 T, .int .i64 (Q - 1), .int .i64 N, .int .i64 d, .int .i64 P] 68)).drew (w.heap.size) 68 #[.float .f64 0, .int .i64 0, .int .i64 0, .int .i64 0, .int .i64 0]) := ⟨blk⟩
                have HE : Aside0 (Blk (w4.alloc (.cells #[.float .f64 T, .int .i64 (Q - 1), .int .i64 N, .int .i64 d, .int .i64 P] 68)).drew (w4.heap.size) 68 #[.float .f64 T, .int .i64 (Q - 1), .int .i64 N, .int .i64 d, .int .i64 P]) := ⟨(Blk.new w4 68 #[.float .f64 T, .int .i64 (Q - 1), .int .i64 N, .int .i64 d, .int .i64 P]).drew⟩
                go_wp2_with fail
                clear cR0 cR1 cR2 cR3 cR4 fR cX0 cX1 cX2 fX
                refine (CG.out _).mono ?_
                rintro e w5 ⟨rfl, hk⟩
                replace HR : Aside0 (Blk w5 (w.heap.size) 68 #[.float .f64 0, .int .i64 0, .int .i64 0, .int .i64 0, .int .i64 0]) := ⟨Blk.step blk hk⟩
                replace HE : Aside0 (Blk w5 (w4.heap.size) 68 #[.float .f64 T, .int .i64 (Q - 1), .int .i64 N, .int .i64 d, .int .i64 P]) := ⟨Blk.step blk hk⟩
                replace HB := Aside0.mk (below_step bel hk)
                have hsw5 := hk.size
                try simp at hsw5
                clear hk
                obtain ⟨cR0, cR1, cR2, cR3, cR4, fR⟩ := HR.out.c5
                obtain ⟨cE0, cE1, cE2, cE3, cE4, fE⟩ := HE.out.c5
                go_wp2_with fail
                have hr3 := Try.results79
                exact bodyPost_ret (v := .tuple #[.agg #[.float .f64 0, .int .i64 0, .int .i64 0, .int .i64 0, .int .i64 0], .int .i64 6]) (by simp [results, Try.results79, go_sem, *]) rfl ⟨rfl, bel⟩
              exact AllReadyH.nil
            exact AllReadyH.nil
          exact AllReadyH.nil
        exact AllReadyH.nil
      exact AllReadyH.nil
    exact AllReadyH.nil
  refine AllReadyH.cons rfl (fun K hK => ?_) ?_
  · go_simp
    have HX := Aside0.mk ((Blk.new w1 42 #[.float .f64 0, .int .i64 0, .int .i64 0]).drew)
    have nrx : ¬ w.heap.size = w1.heap.size := by omega
    have nxr : ¬ w1.heap.size = w.heap.size := by omega
    have nvx : w.heap.size ≤ w1.heap.size := by omega
    refine hK.out _ _ (by trivial) (fun hHeld => ?_)
    clear hK K
    try simp only [Act.put, List.setIfInBounds_toArray, List.set_cons_zero, List.set_cons_succ]
    refine wpAnyH_ready (fuel := 11) (rs := [2]) (by kernel_rfl) (by simp) ?_
    refine AllReadyH.cons rfl (fun K hK => ?_) ?_
    · go_simp
      refine (CI.out _).mono ?_
      rintro e wA ⟨rfl, hk⟩
      replace HR : Aside0 (Blk wA (w.heap.size) 68 #[.float .f64 0, .int .i64 0, .int .i64 0, .int .i64 0, .int .i64 0]) := ⟨Blk.step blk hk⟩
      replace HX : Aside0 (Blk wA (w1.heap.size) 42 #[.float .f64 0, .int .i64 0, .int .i64 0]) := ⟨Blk.step blk hk⟩
      replace HB := Aside0.mk (below_step bel hk)
      have hsA := hk.size
      try simp at hsA
      clear hk
      go_wp2_with fail
      refine hK.out _ _ (by trivial) (fun hHeld => ?_)
      clear hK K
      try simp only [Act.put, List.setIfInBounds_toArray, List.set_cons_zero, List.set_cons_succ]
      refine Rg.tk (fuel := 10) 3 ?_
      refine wpAnyH_ready (fuel := 9) (rs := [4]) (by kernel_rfl) (by simp) ?_
      refine AllReadyH.cons rfl (fun K hK => ?_) ?_
      · go_simp
        refine (CI.out _).mono ?_
        rintro e wB ⟨rfl, hk⟩
        replace HR : Aside0 (Blk wB (w.heap.size) 68 #[.float .f64 0, .int .i64 0, .int .i64 0, .int .i64 0, .int .i64 0]) := ⟨Blk.step blk hk⟩
        replace HX : Aside0 (Blk wB (w1.heap.size) 42 #[.float .f64 0, .int .i64 0, .int .i64 0]) := ⟨Blk.step blk hk⟩
        replace HB := Aside0.mk (below_step bel hk)
        have hsB := hk.size
        try simp at hsB
        clear hk
        go_wp2_with fail
        refine hK.out _ _ (by trivial) (fun hHeld => ?_)
        clear hK K
        try simp only [Act.put, List.setIfInBounds_toArray, List.set_cons_zero, List.set_cons_succ]
        refine Rg.tk (fuel := 8) 5 ?_
        refine wpAnyH_ready (fuel := 7) (rs := [6]) (by kernel_rfl) (by simp) ?_
        refine AllReadyH.cons rfl (fun K hK => ?_) ?_
        · go_simp
          refine (CR.out _).mono ?_
          rintro e wC ⟨rfl, hk⟩
          replace HR : Aside0 (Blk wC (w.heap.size) 68 #[.float .f64 0, .int .i64 0, .int .i64 0, .int .i64 0, .int .i64 0]) := ⟨Blk.step blk hk⟩
          replace HX : Aside0 (Blk wC (w1.heap.size) 42 #[.float .f64 0, .int .i64 0, .int .i64 0]) := ⟨Blk.step blk hk⟩
          replace HB := Aside0.mk (below_step bel hk)
          have hsC := hk.size
          try simp at hsC
          clear hk
          go_wp2_with fail
          refine hK.out _ _ (by trivial) (fun hHeld => ?_)
          clear hK K
          try simp only [Act.put, List.setIfInBounds_toArray, List.set_cons_zero, List.set_cons_succ]
          refine Rg.tk (fuel := 6) 7 ?_
          refine Rg.tk (fuel := 5) 8 ?_
          refine Rg.tk (fuel := 4) 9 ?_
          refine Rg.tk (fuel := 3) 10 ?_
          refine wpAnyH_ready (fuel := 2) (rs := [12]) (by kernel_rfl) (by simp) ?_
          refine AllReadyH.cons rfl (fun K hK => ?_) ?_
          · obtain ⟨cX0, cX1, cX2, fX⟩ := HX.out.c3
            go_simp
            have HX1 := HX.out
            clear HX cX0 cX1 cX2 fX
            have HX : Aside0 (Blk (((wC.setCell ⟨w1.heap.size, 0, none⟩ (.float .f64 T)).setCell ⟨w1.heap.size, 1, none⟩ (.int .i64 S1)).setCell ⟨w1.heap.size, 2, none⟩ (.int .i64 N1)) (w1.heap.size) 42 #[.float .f64 T, .int .i64 S1, .int .i64 N1]) := ⟨((HX1.set_ 0 _).set_ 1 _).set_ 2 _⟩
            clear HX1
            refine hK.out _ _ (by trivial) (fun hHeld => ?_)
            clear hK K
            try simp only [Act.put, List.setIfInBounds_toArray, List.set_cons_zero, List.set_cons_succ]
            refine Rg.tk (fuel := 1) 13 ?_
            refine Rg.tk (fuel := 0) 14 ?_
            refine wpAnyH_done (by kernel_rfl) ?_ _
            refine NoPanic.normal ?_
            go_wp2_with fail
            refine (CN.out _).mono ?_
            rintro e w3 ⟨rfl, hk⟩
            replace HR : Aside0 (Blk w3 (w.heap.size) 68 #[.float .f64 0, .int .i64 0, .int .i64 0, .int .i64 0, .int .i64 0]) := ⟨Blk.step blk hk⟩
            replace HX : Aside0 (Blk w3 (w1.heap.size) 42 #[.float .f64 T, .int .i64 S1, .int .i64 N1]) := ⟨Blk.step blk hk⟩
            replace HB := Aside0.mk (below_step bel hk)
            have hsw3 := hk.size
            try simp at hsw3
            clear hk
            obtain ⟨cR0, cR1, cR2, cR3, cR4, fR⟩ := HR.out.c5
            obtain ⟨cX0, cX1, cX2, fX⟩ := HX.out.c3
            go_wp2_with fail
            clear cR0 cR1 cR2 cR3 cR4 fR cX0 cX1 cX2 fX
            refine (CP.out _).mono ?_
            rintro e w4 ⟨rfl, hk⟩
            replace HR : Aside0 (Blk w4 (w.heap.size) 68 #[.float .f64 0, .int .i64 0, .int .i64 0, .int .i64 0, .int .i64 0]) := ⟨Blk.step blk hk⟩
            replace HX : Aside0 (Blk w4 (w1.heap.size) 42 #[.float .f64 T, .int .i64 S1, .int .i64 N1]) := ⟨Blk.step blk hk⟩
            replace HB := Aside0.mk (below_step bel hk)
            have hsw4 := hk.size
            try simp at hsw4
            clear hk
            obtain ⟨cR0, cR1, cR2, cR3, cR4, fR⟩ := HR.out.c5
            obtain ⟨cX0, cX1, cX2, fX⟩ := HX.out.c3
            have n4 : w1.heap.size < w4.heap.size := by omega
            have m4 : ¬ w1.heap.size = w4.heap.size := by omega
            have k4 : ¬ w.heap.size = w4.heap.size := by omega
            have k5 : ¬ w4.heap.size = w.heap.size := by omega
            have k6 : w.heap.size ≤ w4.heap.size := by omega
            have k7 : w.heap.size < w4.heap.size := by omega
            go_wp2_with fail
            refine wp_region_noPanic ?_
            refine wp_region_held_drew (S := (fun w' => w'.cell? ⟨w1.heap.size, 0, none⟩ = some (.float .f64 T))) (by kernel_rfl) (by first | assumption | (go_keep; done) | (go_simp; done)) (fun hHeld => ?_)
            change wpAnyH _ _ _ _ _ 13 _ _ _
            refine Rg.tk (fuel := 12) 0 ?_
            refine Rg.tk (fuel := 11) 1 ?_
            refine Rg.tk (fuel := 10) 2 ?_
            refine Rg.tk (fuel := 9) 3 ?_
            refine Rg.tk (fuel := 8) 4 ?_
            refine Rg.tk (fuel := 7) 5 ?_
            refine Rg.tk (fuel := 6) 6 ?_
            refine Rg.tk (fuel := 5) 7 ?_
            refine Rg.tk (fuel := 4) 8 ?_
            refine Rg.tk (fuel := 3) 9 ?_
            refine Rg.tk (fuel := 2) 10 ?_
            refine wpAnyH_ready (fuel := 1) (rs := [11]) (by kernel_rfl) (by simp) ?_
            refine AllReadyH.cons rfl (fun K hK => ?_) ?_
            · go_simp
              refine hK.out _ _ (by first | assumption | (go_keep; done) | (go_simp; done)) (fun hHeld => ?_)
              clear hK K
              try simp only [Act.put, List.setIfInBounds_toArray, List.set_cons_zero, List.set_cons_succ]
              refine wpAnyH_ready (fuel := 0) (rs := [12]) (by kernel_rfl) (by simp) ?_
              refine AllReadyH.cons rfl (fun K hK => ?_) ?_
              · go_simp
                refine hK.out _ _ (by first | assumption | (go_keep; done) | (go_simp; done)) (fun hHeld => ?_)
                clear hK K
                try simp only [Act.put, List.setIfInBounds_toArray, List.set_cons_zero, List.set_cons_succ]
                refine wpAnyH_done (by kernel_rfl) ?_ _
                refine NoPanic.normal ?_
                replace HR : Aside0 (Blk (w4.alloc (.cells #[.float .f64 T, .int .i64 (Q - 1), .int .i64 N, .int .i64 d, .int .i64 P] 68)).drew (w.heap.size) 68 #[.float .f64 0, .int .i64 0, .int .i64 0, .int .i64 0, .int .i64 0]) := ⟨blk⟩
                have HE : Aside0 (Blk (w4.alloc (.cells #[.float .f64 T, .int .i64 (Q - 1), .int .i64 N, .int .i64 d, .int .i64 P] 68)).drew (w4.heap.size) 68 #[.float .f64 T, .int .i64 (Q - 1), .int .i64 N, .int .i64 d, .int .i64 P]) := ⟨(Blk.new w4 68 #[.float .f64 T, .int .i64 (Q - 1), .int .i64 N, .int .i64 d, .int .i64 P]).drew⟩
                go_wp2_with fail
                clear cR0 cR1 cR2 cR3 cR4 fR cX0 cX1 cX2 fX
                refine (CG.out _).mono ?_
                rintro e w5 ⟨rfl, hk⟩
                replace HR : Aside0 (Blk w5 (w.heap.size) 68 #[.float .f64 0, .int .i64 0, .int .i64 0, .int .i64 0, .int .i64 0]) := ⟨Blk.step blk hk⟩
                replace HE : Aside0 (Blk w5 (w4.heap.size) 68 #[.float .f64 T, .int .i64 (Q - 1), .int .i64 N, .int .i64 d, .int .i64 P]) := ⟨Blk.step blk hk⟩
                replace HB := Aside0.mk (below_step bel hk)
                have hsw5 := hk.size
                try simp at hsw5
                clear hk
                obtain ⟨cR0, cR1, cR2, cR3, cR4, fR⟩ := HR.out.c5
                obtain ⟨cE0, cE1, cE2, cE3, cE4, fE⟩ := HE.out.c5
                go_wp2_with fail
                have hr3 := Try.results79
                exact bodyPost_ret (v := .tuple #[.agg #[.float .f64 0, .int .i64 0, .int .i64 0, .int .i64 0, .int .i64 0], .int .i64 6]) (by simp [results, Try.results79, go_sem, *]) rfl ⟨rfl, bel⟩
              exact AllReadyH.nil
            exact AllReadyH.nil
          exact AllReadyH.nil
        exact AllReadyH.nil
      exact AllReadyH.nil
    exact AllReadyH.nil
  exact AllReadyH.nil


set_option maxRecDepth 100000 in
set_option maxHeartbeats 8000000 in
theorem of79_ok (s Z : ByteArray) (d T' S1 N1 o bad N o1 e1 P o2 e2 : Int) (T : Nat) (w : World) (hs : s.size = 25) (zz : Z.size ≤ 8)
    (CC : Aside0 (Gives 97 #[.string s, .int .i64 25] (.int .i64 0))) (CI : Aside0 (Gives 26 #[.int .i64 0] (.string Z)))
    (CR : Aside0 (Gives 70 #[.string (s.extract 0 8 ++ Z ++ Z), .int .i64 0] (.tuple #[.agg #[.float .f64 T, .int .i64 S1, .int .i64 N1], .int .i64 o, .int .i64 bad])))
    (CN : Aside0 (Gives 51 #[.string s, .int .i64 9] (.tuple #[.int .i64 N, .int .i64 o1, .int .i64 e1]))) (CP : Aside0 (Gives 51 #[.string s, .int .i64 17] (.tuple #[.int .i64 P, .int .i64 o2, .int .i64 e2])))
    (hb : bad ≤ 0 ∧ 0 ≤ bad) (CG : Aside0 (Gives 57 #[.agg #[.float .f64 T, .int .i64 (bt s 8 - 1), .int .i64 N, .int .i64 d, .int .i64 P]] (.bool true))) :
    Calls Try.prog 79 #[.string s, .int .i64 d] w fun e w' => e = .returned (.tuple #[.agg #[.float .f64 T, .int .i64 (bt s 8 - 1), .int .i64 N, .int .i64 d, .int .i64 P], .int .i64 0]) ∧ Below w.heap.size w w' := by
  have hu2 := Try.underlying42
  have hu3 := Try.underlying68
  obtain ⟨hb1, hb2⟩ := hb
  have e1 : ∀ W : World, (Instr.slice 9 (.string s) none (some (.int .i64 8)) none).run Try.prog W = .ok (.string (s.extract 0 8)) W := fun W => Go.run_slice_string_h (P := Try.prog) W 9 s Try.underlying9 .i64 8 (by omega) (by omega)
  have hx : (s.extract 0 8).size = 8 := by rw [size_extract' _ _ _ (by omega)]
  have s0 : ¬ 9223372036854775807 < (s.extract 0 8).size + Z.size := by omega
  have s1 : ¬ 9223372036854775807 < (s.extract 0 8).size + Z.size + Z.size := by omega
  have hq := bt_range s 8
  have ei := run_bt s 8 (by decide) (by omega)
  generalize bt s 8 = Q at *
  have hq1 : IntKind.i64.wrap Q = Q := by rw [IntKind.wrap_i64]; omega
  have hq2 : IntKind.i64.wrap (Q - 1) = Q - 1 := by rw [IntKind.wrap_i64]; omega
  clear hs zz hx hq
  generalize s.extract 0 8 = X at *
  have hvv := Nat.le_refl w.heap.size
  have HB := Aside0.mk (below_alloc (Below.refl w.heap.size w) (.cells #[.float .f64 0, .int .i64 0, .int .i64 0, .int .i64 0, .int .i64 0] 68))
  have HR := Aside0.mk (Blk.new w 68 #[.float .f64 0, .int .i64 0, .int .i64 0, .int .i64 0, .int .i64 0])
  go_enter Try.func79, Try.ntmps79
  go_wp2_with fail
  refine (CC.out _).mono ?_
  rintro e w1 ⟨rfl, hk⟩
  replace HR : Aside0 (Blk w1 (w.heap.size) 68 #[.float .f64 0, .int .i64 0, .int .i64 0, .int .i64 0, .int .i64 0]) := ⟨Blk.step blk hk⟩
  replace HB := Aside0.mk (below_step bel hk)
  have hsw1 := hk.size
  try simp at hsw1
  clear hk
  obtain ⟨cR0, cR1, cR2, cR3, cR4, fR⟩ := HR.out.c5
  go_wp2_with fail
  refine wp_region_noPanic ?_
  refine wp_region_held_drew (S := (fun _ => True)) (by kernel_rfl) (by trivial) (fun hHeld => ?_)
  change wpAnyH _ _ _ _ _ 15 _ _ _
  refine Rg.tk (fuel := 14) 0 ?_
  refine Rg.tk (fuel := 13) 1 ?_
  refine wpAnyH_ready (fuel := 12) (rs := [2, 11]) (by kernel_rfl) (by simp) ?_
  refine AllReadyH.cons rfl (fun K hK => ?_) ?_
  · go_simp
    refine (CI.out _).mono ?_
    rintro e wA ⟨rfl, hk⟩
    replace HR : Aside0 (Blk wA (w.heap.size) 68 #[.float .f64 0, .int .i64 0, .int .i64 0, .int .i64 0, .int .i64 0]) := ⟨Blk.step blk hk⟩
    replace HB := Aside0.mk (below_step bel hk)
    have hsA := hk.size
    try simp at hsA
    clear hk
    go_wp2_with fail
    refine hK.out _ _ (by trivial) (fun hHeld => ?_)
    clear hK K
    try simp only [Act.put, List.setIfInBounds_toArray, List.set_cons_zero, List.set_cons_succ]
    refine Rg.tk (fuel := 11) 3 ?_
    refine wpAnyH_ready (fuel := 10) (rs := [4, 11]) (by kernel_rfl) (by simp) ?_
    refine AllReadyH.cons rfl (fun K hK => ?_) ?_
    · go_simp
      refine (CI.out _).mono ?_
      rintro e wB ⟨rfl, hk⟩
      replace HR : Aside0 (Blk wB (w.heap.size) 68 #[.float .f64 0, .int .i64 0, .int .i64 0, .int .i64 0, .int .i64 0]) := ⟨Blk.step blk hk⟩
      replace HB := Aside0.mk (below_step bel hk)
      have hsB := hk.size
      try simp at hsB
      clear hk
      go_wp2_with fail
      refine hK.out _ _ (by trivial) (fun hHeld => ?_)
      clear hK K
      try simp only [Act.put, List.setIfInBounds_toArray, List.set_cons_zero, List.set_cons_succ]
      refine Rg.tk (fuel := 9) 5 ?_
      refine wpAnyH_ready (fuel := 8) (rs := [6, 11]) (by kernel_rfl) (by simp) ?_
      refine AllReadyH.cons rfl (fun K hK => ?_) ?_
      · go_simp
        refine (CR.out _).mono ?_
        rintro e wC ⟨rfl, hk⟩
        replace HR : Aside0 (Blk wC (w.heap.size) 68 #[.float .f64 0, .int .i64 0, .int .i64 0, .int .i64 0, .int .i64 0]) := ⟨Blk.step blk hk⟩
        replace HB := Aside0.mk (below_step bel hk)
        have hsC := hk.size
        try simp at hsC
        clear hk
        go_wp2_with fail
        refine hK.out _ _ (by trivial) (fun hHeld => ?_)
        clear hK K
        try simp only [Act.put, List.setIfInBounds_toArray, List.set_cons_zero, List.set_cons_succ]
        refine Rg.tk (fuel := 7) 7 ?_
        refine Rg.tk (fuel := 6) 8 ?_
        refine Rg.tk (fuel := 5) 9 ?_
        refine Rg.tk (fuel := 4) 10 ?_
        refine wpAnyH_ready (fuel := 3) (rs := [11]) (by kernel_rfl) (by simp) ?_
        refine AllReadyH.cons rfl (fun K hK => ?_) ?_
        · go_simp
          have HX := Aside0.mk ((Blk.new wC 42 #[.float .f64 0, .int .i64 0, .int .i64 0]))
          have nrx : ¬ w.heap.size = wC.heap.size := by omega
          have nxr : ¬ wC.heap.size = w.heap.size := by omega
          have nvx : w.heap.size ≤ wC.heap.size := by omega
          refine hK.out _ _ (by trivial) (fun hHeld => ?_)
          clear hK K
          try simp only [Act.put, List.setIfInBounds_toArray, List.set_cons_zero, List.set_cons_succ]
          refine wpAnyH_ready (fuel := 2) (rs := [12]) (by kernel_rfl) (by simp) ?_
          refine AllReadyH.cons rfl (fun K hK => ?_) ?_
          · go_simp
            replace HX := Aside0.mk (Blk.new wC 42 #[.float .f64 T, .int .i64 S1, .int .i64 N1])
            refine hK.out _ _ (by trivial) (fun hHeld => ?_)
            clear hK K
            try simp only [Act.put, List.setIfInBounds_toArray, List.set_cons_zero, List.set_cons_succ]
            refine Rg.tk (fuel := 1) 13 ?_
            refine Rg.tk (fuel := 0) 14 ?_
            refine wpAnyH_done (by kernel_rfl) ?_ _
            refine NoPanic.normal ?_
            go_wp2_with fail
            refine (CN.out _).mono ?_
            rintro e w3 ⟨rfl, hk⟩
            replace HR : Aside0 (Blk w3 (w.heap.size) 68 #[.float .f64 0, .int .i64 0, .int .i64 0, .int .i64 0, .int .i64 0]) := ⟨Blk.step blk hk⟩
            replace HX : Aside0 (Blk w3 (wC.heap.size) 42 #[.float .f64 T, .int .i64 S1, .int .i64 N1]) := ⟨Blk.step blk hk⟩
            replace HB := Aside0.mk (below_step bel hk)
            have hsw3 := hk.size
            try simp at hsw3
            clear hk
            obtain ⟨cR0, cR1, cR2, cR3, cR4, fR⟩ := HR.out.c5
            obtain ⟨cX0, cX1, cX2, fX⟩ := HX.out.c3
            go_wp2_with fail
            clear cR0 cR1 cR2 cR3 cR4 fR cX0 cX1 cX2 fX
            refine (CP.out _).mono ?_
            rintro e w4 ⟨rfl, hk⟩
            replace HR : Aside0 (Blk w4 (w.heap.size) 68 #[.float .f64 0, .int .i64 0, .int .i64 0, .int .i64 0, .int .i64 0]) := ⟨Blk.step blk hk⟩
            replace HX : Aside0 (Blk w4 (wC.heap.size) 42 #[.float .f64 T, .int .i64 S1, .int .i64 N1]) := ⟨Blk.step blk hk⟩
            replace HB := Aside0.mk (below_step bel hk)
            have hsw4 := hk.size
            try simp at hsw4
            clear hk
            obtain ⟨cR0, cR1, cR2, cR3, cR4, fR⟩ := HR.out.c5
            obtain ⟨cX0, cX1, cX2, fX⟩ := HX.out.c3
            have n4 : wC.heap.size < w4.heap.size := by omega
            have m4 : ¬ wC.heap.size = w4.heap.size := by omega
            have k4 : ¬ w.heap.size = w4.heap.size := by omega
            have k5 : ¬ w4.heap.size = w.heap.size := by omega
            have k6 : w.heap.size ≤ w4.heap.size := by omega
            have k7 : w.heap.size < w4.heap.size := by omega
            go_wp2_with fail
            refine wp_region_noPanic ?_
            refine wp_region_held_drew (S := (fun w' => w'.cell? ⟨wC.heap.size, 0, none⟩ = some (.float .f64 T))) (by kernel_rfl) (by first | assumption | (go_keep; done) | (go_simp; done)) (fun hHeld => ?_)
            change wpAnyH _ _ _ _ _ 13 _ _ _
            refine Rg.tk (fuel := 12) 0 ?_
            refine Rg.tk (fuel := 11) 1 ?_
            refine Rg.tk (fuel := 10) 2 ?_
            refine Rg.tk (fuel := 9) 3 ?_
            refine Rg.tk (fuel := 8) 4 ?_
            refine Rg.tk (fuel := 7) 5 ?_
            refine Rg.tk (fuel := 6) 6 ?_
            refine Rg.tk (fuel := 5) 7 ?_
            refine Rg.tk (fuel := 4) 8 ?_
            refine Rg.tk (fuel := 3) 9 ?_
            refine Rg.tk (fuel := 2) 10 ?_
            refine wpAnyH_ready (fuel := 1) (rs := [11]) (by kernel_rfl) (by simp) ?_
            refine AllReadyH.cons rfl (fun K hK => ?_) ?_
            · go_simp
              refine hK.out _ _ (by first | assumption | (go_keep; done) | (go_simp; done)) (fun hHeld => ?_)
              clear hK K
              try simp only [Act.put, List.setIfInBounds_toArray, List.set_cons_zero, List.set_cons_succ]
              refine wpAnyH_ready (fuel := 0) (rs := [12]) (by kernel_rfl) (by simp) ?_
              refine AllReadyH.cons rfl (fun K hK => ?_) ?_
              · go_simp
                refine hK.out _ _ (by first | assumption | (go_keep; done) | (go_simp; done)) (fun hHeld => ?_)
                clear hK K
                try simp only [Act.put, List.setIfInBounds_toArray, List.set_cons_zero, List.set_cons_succ]
                refine wpAnyH_done (by kernel_rfl) ?_ _
                refine NoPanic.normal ?_
                replace HR : Aside0 (Blk (w4.alloc (.cells #[.float .f64 T, .int .i64 (Q - 1), .int .i64 N, .int .i64 d, .int .i64 P] 68)).drew (w.heap.size) 68 #[.float .f64 0, .int .i64 0, .int .i64 0, .int .i64 0, .int .i64 0]) := ⟨blk⟩
                have HE : Aside0 (Blk (w4.alloc (.cells #[.float .f64 T, .int .i64 (Q - 1), .int .i64 N, .int .i64 d, .int .i64 P] 68)).drew (w4.heap.size) 68 #[.float .f64 T, .int .i64 (Q - 1), .int .i64 N, .int .i64 d, .int .i64 P]) := ⟨(Blk.new w4 68 #[.float .f64 T, .int .i64 (Q - 1), .int .i64 N, .int .i64 d, .int .i64 P]).drew⟩
                go_wp2_with fail
                clear cR0 cR1 cR2 cR3 cR4 fR cX0 cX1 cX2 fX
                refine (CG.out _).mono ?_
                rintro e w5 ⟨rfl, hk⟩
                replace HR : Aside0 (Blk w5 (w.heap.size) 68 #[.float .f64 0, .int .i64 0, .int .i64 0, .int .i64 0, .int .i64 0]) := ⟨Blk.step blk hk⟩
                replace HE : Aside0 (Blk w5 (w4.heap.size) 68 #[.float .f64 T, .int .i64 (Q - 1), .int .i64 N, .int .i64 d, .int .i64 P]) := ⟨Blk.step blk hk⟩
                replace HB := Aside0.mk (below_step bel hk)
                have hsw5 := hk.size
                try simp at hsw5
                clear hk
                obtain ⟨cR0, cR1, cR2, cR3, cR4, fR⟩ := HR.out.c5
                obtain ⟨cE0, cE1, cE2, cE3, cE4, fE⟩ := HE.out.c5
                go_wp2_with fail
                have hr3 := Try.results79
                exact bodyPost_ret (v := .tuple #[.agg #[.float .f64 T, .int .i64 (Q - 1), .int .i64 N, .int .i64 d, .int .i64 P], .int .i64 0]) (by simp [results, Try.results79, go_sem, *]) rfl ⟨rfl, bel⟩
              exact AllReadyH.nil
            exact AllReadyH.nil
          exact AllReadyH.nil
        exact AllReadyH.nil
      refine AllReadyH.cons rfl (fun K hK => ?_) ?_
      · go_simp
        have HX := Aside0.mk ((Blk.new wB 42 #[.float .f64 0, .int .i64 0, .int .i64 0]))
        have nrx : ¬ w.heap.size = wB.heap.size := by omega
        have nxr : ¬ wB.heap.size = w.heap.size := by omega
        have nvx : w.heap.size ≤ wB.heap.size := by omega
        refine hK.out _ _ (by trivial) (fun hHeld => ?_)
        clear hK K
        try simp only [Act.put, List.setIfInBounds_toArray, List.set_cons_zero, List.set_cons_succ]
        refine wpAnyH_ready (fuel := 7) (rs := [6]) (by kernel_rfl) (by simp) ?_
        refine AllReadyH.cons rfl (fun K hK => ?_) ?_
        · go_simp
          refine (CR.out _).mono ?_
          rintro e wC ⟨rfl, hk⟩
          replace HR : Aside0 (Blk wC (w.heap.size) 68 #[.float .f64 0, .int .i64 0, .int .i64 0, .int .i64 0, .int .i64 0]) := ⟨Blk.step blk hk⟩
          replace HX : Aside0 (Blk wC (wB.heap.size) 42 #[.float .f64 0, .int .i64 0, .int .i64 0]) := ⟨Blk.step blk hk⟩
          replace HB := Aside0.mk (below_step bel hk)
          have hsC := hk.size
          try simp at hsC
          clear hk
          go_wp2_with fail
          refine hK.out _ _ (by trivial) (fun hHeld => ?_)
          clear hK K
          try simp only [Act.put, List.setIfInBounds_toArray, List.set_cons_zero, List.set_cons_succ]
          refine Rg.tk (fuel := 6) 7 ?_
          refine Rg.tk (fuel := 5) 8 ?_
          refine Rg.tk (fuel := 4) 9 ?_
          refine Rg.tk (fuel := 3) 10 ?_
          refine wpAnyH_ready (fuel := 2) (rs := [12]) (by kernel_rfl) (by simp) ?_
          refine AllReadyH.cons rfl (fun K hK => ?_) ?_
          · obtain ⟨cX0, cX1, cX2, fX⟩ := HX.out.c3
            go_simp
            have HX1 := HX.out
            clear HX cX0 cX1 cX2 fX
            have HX : Aside0 (Blk (((wC.setCell ⟨wB.heap.size, 0, none⟩ (.float .f64 T)).setCell ⟨wB.heap.size, 1, none⟩ (.int .i64 S1)).setCell ⟨wB.heap.size, 2, none⟩ (.int .i64 N1)) (wB.heap.size) 42 #[.float .f64 T, .int .i64 S1, .int .i64 N1]) := ⟨((HX1.set_ 0 _).set_ 1 _).set_ 2 _⟩
            clear HX1
            refine hK.out _ _ (by trivial) (fun hHeld => ?_)
            clear hK K
            try simp only [Act.put, List.setIfInBounds_toArray, List.set_cons_zero, List.set_cons_succ]
            refine Rg.tk (fuel := 1) 13 ?_
            refine Rg.tk (fuel := 0) 14 ?_
            refine wpAnyH_done (by kernel_rfl) ?_ _
            refine NoPanic.normal ?_
            go_wp2_with fail
            refine (CN.out _).mono ?_
            rintro e w3 ⟨rfl, hk⟩
            replace HR : Aside0 (Blk w3 (w.heap.size) 68 #[.float .f64 0, .int .i64 0, .int .i64 0, .int .i64 0, .int .i64 0]) := ⟨Blk.step blk hk⟩
            replace HX : Aside0 (Blk w3 (wB.heap.size) 42 #[.float .f64 T, .int .i64 S1, .int .i64 N1]) := ⟨Blk.step blk hk⟩
            replace HB := Aside0.mk (below_step bel hk)
            have hsw3 := hk.size
            try simp at hsw3
            clear hk
            obtain ⟨cR0, cR1, cR2, cR3, cR4, fR⟩ := HR.out.c5
            obtain ⟨cX0, cX1, cX2, fX⟩ := HX.out.c3
            go_wp2_with fail
            clear cR0 cR1 cR2 cR3 cR4 fR cX0 cX1 cX2 fX
            refine (CP.out _).mono ?_
            rintro e w4 ⟨rfl, hk⟩
            replace HR : Aside0 (Blk w4 (w.heap.size) 68 #[.float .f64 0, .int .i64 0, .int .i64 0, .int .i64 0, .int .i64 0]) := ⟨Blk.step blk hk⟩
            replace HX : Aside0 (Blk w4 (wB.heap.size) 42 #[.float .f64 T, .int .i64 S1, .int .i64 N1]) := ⟨Blk.step blk hk⟩
            replace HB := Aside0.mk (below_step bel hk)
            have hsw4 := hk.size
            try simp at hsw4
            clear hk
            obtain ⟨cR0, cR1, cR2, cR3, cR4, fR⟩ := HR.out.c5
            obtain ⟨cX0, cX1, cX2, fX⟩ := HX.out.c3
            have n4 : wB.heap.size < w4.heap.size := by omega
            have m4 : ¬ wB.heap.size = w4.heap.size := by omega
            have k4 : ¬ w.heap.size = w4.heap.size := by omega
            have k5 : ¬ w4.heap.size = w.heap.size := by omega
            have k6 : w.heap.size ≤ w4.heap.size := by omega
            have k7 : w.heap.size < w4.heap.size := by omega
            go_wp2_with fail
            refine wp_region_noPanic ?_
            refine wp_region_held_drew (S := (fun w' => w'.cell? ⟨wB.heap.size, 0, none⟩ = some (.float .f64 T))) (by kernel_rfl) (by first | assumption | (go_keep; done) | (go_simp; done)) (fun hHeld => ?_)
            change wpAnyH _ _ _ _ _ 13 _ _ _
            refine Rg.tk (fuel := 12) 0 ?_
            refine Rg.tk (fuel := 11) 1 ?_
            refine Rg.tk (fuel := 10) 2 ?_
            refine Rg.tk (fuel := 9) 3 ?_
            refine Rg.tk (fuel := 8) 4 ?_
            refine Rg.tk (fuel := 7) 5 ?_
            refine Rg.tk (fuel := 6) 6 ?_
            refine Rg.tk (fuel := 5) 7 ?_
            refine Rg.tk (fuel := 4) 8 ?_
            refine Rg.tk (fuel := 3) 9 ?_
            refine Rg.tk (fuel := 2) 10 ?_
            refine wpAnyH_ready (fuel := 1) (rs := [11]) (by kernel_rfl) (by simp) ?_
            refine AllReadyH.cons rfl (fun K hK => ?_) ?_
            · go_simp
              refine hK.out _ _ (by first | assumption | (go_keep; done) | (go_simp; done)) (fun hHeld => ?_)
              clear hK K
              try simp only [Act.put, List.setIfInBounds_toArray, List.set_cons_zero, List.set_cons_succ]
              refine wpAnyH_ready (fuel := 0) (rs := [12]) (by kernel_rfl) (by simp) ?_
              refine AllReadyH.cons rfl (fun K hK => ?_) ?_
              · go_simp
                refine hK.out _ _ (by first | assumption | (go_keep; done) | (go_simp; done)) (fun hHeld => ?_)
                clear hK K
                try simp only [Act.put, List.setIfInBounds_toArray, List.set_cons_zero, List.set_cons_succ]
                refine wpAnyH_done (by kernel_rfl) ?_ _
                refine NoPanic.normal ?_
                replace HR : Aside0 (Blk (w4.alloc (.cells #[.float .f64 T, .int .i64 (Q - 1), .int .i64 N, .int .i64 d, .int .i64 P] 68)).drew (w.heap.size) 68 #[.float .f64 0, .int .i64 0, .int .i64 0, .int .i64 0, .int .i64 0]) := ⟨blk⟩
                have HE : Aside0 (Blk (w4.alloc (.cells #[.float .f64 T, .int .i64 (Q - 1), .int .i64 N, .int .i64 d, .int .i64 P] 68)).drew (w4.heap.size) 68 #[.float .f64 T, .int .i64 (Q - 1), .int .i64 N, .int .i64 d, .int .i64 P]) := ⟨(Blk.new w4 68 #[.float .f64 T, .int .i64 (Q - 1), .int .i64 N, .int .i64 d, .int .i64 P]).drew⟩
                go_wp2_with fail
                clear cR0 cR1 cR2 cR3 cR4 fR cX0 cX1 cX2 fX
                refine (CG.out _).mono ?_
                rintro e w5 ⟨rfl, hk⟩
                replace HR : Aside0 (Blk w5 (w.heap.size) 68 #[.float .f64 0, .int .i64 0, .int .i64 0, .int .i64 0, .int .i64 0]) := ⟨Blk.step blk hk⟩
                replace HE : Aside0 (Blk w5 (w4.heap.size) 68 #[.float .f64 T, .int .i64 (Q - 1), .int .i64 N, .int .i64 d, .int .i64 P]) := ⟨Blk.step blk hk⟩
                replace HB := Aside0.mk (below_step bel hk)
                have hsw5 := hk.size
                try simp at hsw5
                clear hk
                obtain ⟨cR0, cR1, cR2, cR3, cR4, fR⟩ := HR.out.c5
                obtain ⟨cE0, cE1, cE2, cE3, cE4, fE⟩ := HE.out.c5
                go_wp2_with fail
                have hr3 := Try.results79
                exact bodyPost_ret (v := .tuple #[.agg #[.float .f64 T, .int .i64 (Q - 1), .int .i64 N, .int .i64 d, .int .i64 P], .int .i64 0]) (by simp [results, Try.results79, go_sem, *]) rfl ⟨rfl, bel⟩
              exact AllReadyH.nil
            exact AllReadyH.nil
          exact AllReadyH.nil
        exact AllReadyH.nil
      exact AllReadyH.nil
    refine AllReadyH.cons rfl (fun K hK => ?_) ?_
    · go_simp
      have HX := Aside0.mk ((Blk.new wA 42 #[.float .f64 0, .int .i64 0, .int .i64 0]))
      have nrx : ¬ w.heap.size = wA.heap.size := by omega
      have nxr : ¬ wA.heap.size = w.heap.size := by omega
      have nvx : w.heap.size ≤ wA.heap.size := by omega
      refine hK.out _ _ (by trivial) (fun hHeld => ?_)
      clear hK K
      try simp only [Act.put, List.setIfInBounds_toArray, List.set_cons_zero, List.set_cons_succ]
      refine wpAnyH_ready (fuel := 9) (rs := [4]) (by kernel_rfl) (by simp) ?_
      refine AllReadyH.cons rfl (fun K hK => ?_) ?_
      · go_simp
        refine (CI.out _).mono ?_
        rintro e wB ⟨rfl, hk⟩
        replace HR : Aside0 (Blk wB (w.heap.size) 68 #[.float .f64 0, .int .i64 0, .int .i64 0, .int .i64 0, .int .i64 0]) := ⟨Blk.step blk hk⟩
        replace HX : Aside0 (Blk wB (wA.heap.size) 42 #[.float .f64 0, .int .i64 0, .int .i64 0]) := ⟨Blk.step blk hk⟩
        replace HB := Aside0.mk (below_step bel hk)
        have hsB := hk.size
        try simp at hsB
        clear hk
        go_wp2_with fail
        refine hK.out _ _ (by trivial) (fun hHeld => ?_)
        clear hK K
        try simp only [Act.put, List.setIfInBounds_toArray, List.set_cons_zero, List.set_cons_succ]
        refine Rg.tk (fuel := 8) 5 ?_
        refine wpAnyH_ready (fuel := 7) (rs := [6]) (by kernel_rfl) (by simp) ?_
        refine AllReadyH.cons rfl (fun K hK => ?_) ?_
        · go_simp
          refine (CR.out _).mono ?_
          rintro e wC ⟨rfl, hk⟩
          replace HR : Aside0 (Blk wC (w.heap.size) 68 #[.float .f64 0, .int .i64 0, .int .i64 0, .int .i64 0, .int .i64 0]) := ⟨Blk.step blk hk⟩
          replace HX : Aside0 (Blk wC (wA.heap.size) 42 #[.float .f64 0, .int .i64 0, .int .i64 0]) := ⟨Blk.step blk hk⟩
          replace HB := Aside0.mk (below_step bel hk)
          have hsC := hk.size
          try simp at hsC
          clear hk
          go_wp2_with fail
          refine hK.out _ _ (by trivial) (fun hHeld => ?_)
          clear hK K
          try simp only [Act.put, List.setIfInBounds_toArray, List.set_cons_zero, List.set_cons_succ]
          refine Rg.tk (fuel := 6) 7 ?_
          refine Rg.tk (fuel := 5) 8 ?_
          refine Rg.tk (fuel := 4) 9 ?_
          refine Rg.tk (fuel := 3) 10 ?_
          refine wpAnyH_ready (fuel := 2) (rs := [12]) (by kernel_rfl) (by simp) ?_
          refine AllReadyH.cons rfl (fun K hK => ?_) ?_
          · obtain ⟨cX0, cX1, cX2, fX⟩ := HX.out.c3
            go_simp
            have HX1 := HX.out
            clear HX cX0 cX1 cX2 fX
            have HX : Aside0 (Blk (((wC.setCell ⟨wA.heap.size, 0, none⟩ (.float .f64 T)).setCell ⟨wA.heap.size, 1, none⟩ (.int .i64 S1)).setCell ⟨wA.heap.size, 2, none⟩ (.int .i64 N1)) (wA.heap.size) 42 #[.float .f64 T, .int .i64 S1, .int .i64 N1]) := ⟨((HX1.set_ 0 _).set_ 1 _).set_ 2 _⟩
            clear HX1
            refine hK.out _ _ (by trivial) (fun hHeld => ?_)
            clear hK K
            try simp only [Act.put, List.setIfInBounds_toArray, List.set_cons_zero, List.set_cons_succ]
            refine Rg.tk (fuel := 1) 13 ?_
            refine Rg.tk (fuel := 0) 14 ?_
            refine wpAnyH_done (by kernel_rfl) ?_ _
            refine NoPanic.normal ?_
            go_wp2_with fail
            refine (CN.out _).mono ?_
            rintro e w3 ⟨rfl, hk⟩
            replace HR : Aside0 (Blk w3 (w.heap.size) 68 #[.float .f64 0, .int .i64 0, .int .i64 0, .int .i64 0, .int .i64 0]) := ⟨Blk.step blk hk⟩
            replace HX : Aside0 (Blk w3 (wA.heap.size) 42 #[.float .f64 T, .int .i64 S1, .int .i64 N1]) := ⟨Blk.step blk hk⟩
            replace HB := Aside0.mk (below_step bel hk)
            have hsw3 := hk.size
            try simp at hsw3
            clear hk
            obtain ⟨cR0, cR1, cR2, cR3, cR4, fR⟩ := HR.out.c5
            obtain ⟨cX0, cX1, cX2, fX⟩ := HX.out.c3
            go_wp2_with fail
            clear cR0 cR1 cR2 cR3 cR4 fR cX0 cX1 cX2 fX
            refine (CP.out _).mono ?_
            rintro e w4 ⟨rfl, hk⟩
            replace HR : Aside0 (Blk w4 (w.heap.size) 68 #[.float .f64 0, .int .i64 0, .int .i64 0, .int .i64 0, .int .i64 0]) := ⟨Blk.step blk hk⟩
            replace HX : Aside0 (Blk w4 (wA.heap.size) 42 #[.float .f64 T, .int .i64 S1, .int .i64 N1]) := ⟨Blk.step blk hk⟩
            replace HB := Aside0.mk (below_step bel hk)
            have hsw4 := hk.size
            try simp at hsw4
            clear hk
            obtain ⟨cR0, cR1, cR2, cR3, cR4, fR⟩ := HR.out.c5
            obtain ⟨cX0, cX1, cX2, fX⟩ := HX.out.c3
            have n4 : wA.heap.size < w4.heap.size := by omega
            have m4 : ¬ wA.heap.size = w4.heap.size := by omega
            have k4 : ¬ w.heap.size = w4.heap.size := by omega
            have k5 : ¬ w4.heap.size = w.heap.size := by omega
            have k6 : w.heap.size ≤ w4.heap.size := by omega
            have k7 : w.heap.size < w4.heap.size := by omega
            go_wp2_with fail
            refine wp_region_noPanic ?_
            refine wp_region_held_drew (S := (fun w' => w'.cell? ⟨wA.heap.size, 0, none⟩ = some (.float .f64 T))) (by kernel_rfl) (by first | assumption | (go_keep; done) | (go_simp; done)) (fun hHeld => ?_)
            change wpAnyH _ _ _ _ _ 13 _ _ _
            refine Rg.tk (fuel := 12) 0 ?_
            refine Rg.tk (fuel := 11) 1 ?_
            refine Rg.tk (fuel := 10) 2 ?_
            refine Rg.tk (fuel := 9) 3 ?_
            refine Rg.tk (fuel := 8) 4 ?_
            refine Rg.tk (fuel := 7) 5 ?_
            refine Rg.tk (fuel := 6) 6 ?_
            refine Rg.tk (fuel := 5) 7 ?_
            refine Rg.tk (fuel := 4) 8 ?_
            refine Rg.tk (fuel := 3) 9 ?_
            refine Rg.tk (fuel := 2) 10 ?_
            refine wpAnyH_ready (fuel := 1) (rs := [11]) (by kernel_rfl) (by simp) ?_
            refine AllReadyH.cons rfl (fun K hK => ?_) ?_
            · go_simp
              refine hK.out _ _ (by first | assumption | (go_keep; done) | (go_simp; done)) (fun hHeld => ?_)
              clear hK K
              try simp only [Act.put, List.setIfInBounds_toArray, List.set_cons_zero, List.set_cons_succ]
              refine wpAnyH_ready (fuel := 0) (rs := [12]) (by kernel_rfl) (by simp) ?_
              refine AllReadyH.cons rfl (fun K hK => ?_) ?_
              · go_simp
                refine hK.out _ _ (by first | assumption | (go_keep; done) | (go_simp; done)) (fun hHeld => ?_)
                clear hK K
                try simp only [Act.put, List.setIfInBounds_toArray, List.set_cons_zero, List.set_cons_succ]
                refine wpAnyH_done (by kernel_rfl) ?_ _
                refine NoPanic.normal ?_
                replace HR : Aside0 (Blk (w4.alloc (.cells #[.float .f64 T, .int .i64 (Q - 1), .int .i64 N, .int .i64 d, .int .i64 P] 68)).drew (w.heap.size) 68 #[.float .f64 0, .int .i64 0, .int .i64 0, .int .i64 0, .int .i64 0]) := ⟨blk⟩
                have HE : Aside0 (Blk (w4.alloc (.cells #[.float .f64 T, .int .i64 (Q - 1), .int .i64 N, .int .i64 d, .int .i64 P] 68)).drew (w4.heap.size) 68 #[.float .f64 T, .int .i64 (Q - 1), .int .i64 N, .int .i64 d, .int .i64 P]) := ⟨(Blk.new w4 68 #[.float .f64 T, .int .i64 (Q - 1), .int .i64 N, .int .i64 d, .int .i64 P]).drew⟩
                go_wp2_with fail
                clear cR0 cR1 cR2 cR3 cR4 fR cX0 cX1 cX2 fX
                refine (CG.out _).mono ?_
                rintro e w5 ⟨rfl, hk⟩
                replace HR : Aside0 (Blk w5 (w.heap.size) 68 #[.float .f64 0, .int .i64 0, .int .i64 0, .int .i64 0, .int .i64 0]) := ⟨Blk.step blk hk⟩
                replace HE : Aside0 (Blk w5 (w4.heap.size) 68 #[.float .f64 T, .int .i64 (Q - 1), .int .i64 N, .int .i64 d, .int .i64 P]) := ⟨Blk.step blk hk⟩
                replace HB := Aside0.mk (below_step bel hk)
                have hsw5 := hk.size
                try simp at hsw5
                clear hk
                obtain ⟨cR0, cR1, cR2, cR3, cR4, fR⟩ := HR.out.c5
                obtain ⟨cE0, cE1, cE2, cE3, cE4, fE⟩ := HE.out.c5
                go_wp2_with fail
                have hr3 := Try.results79
                exact bodyPost_ret (v := .tuple #[.agg #[.float .f64 T, .int .i64 (Q - 1), .int .i64 N, .int .i64 d, .int .i64 P], .int .i64 0]) (by simp [results, Try.results79, go_sem, *]) rfl ⟨rfl, bel⟩
              exact AllReadyH.nil
            exact AllReadyH.nil
          exact AllReadyH.nil
        exact AllReadyH.nil
      exact AllReadyH.nil
    exact AllReadyH.nil
  refine AllReadyH.cons rfl (fun K hK => ?_) ?_
  · go_simp
    have HX := Aside0.mk ((Blk.new w1 42 #[.float .f64 0, .int .i64 0, .int .i64 0]).drew)
    have nrx : ¬ w.heap.size = w1.heap.size := by omega
    have nxr : ¬ w1.heap.size = w.heap.size := by omega
    have nvx : w.heap.size ≤ w1.heap.size := by omega
    refine hK.out _ _ (by trivial) (fun hHeld => ?_)
    clear hK K
    try simp only [Act.put, List.setIfInBounds_toArray, List.set_cons_zero, List.set_cons_succ]
    refine wpAnyH_ready (fuel := 11) (rs := [2]) (by kernel_rfl) (by simp) ?_
    refine AllReadyH.cons rfl (fun K hK => ?_) ?_
    · go_simp
      refine (CI.out _).mono ?_
      rintro e wA ⟨rfl, hk⟩
      replace HR : Aside0 (Blk wA (w.heap.size) 68 #[.float .f64 0, .int .i64 0, .int .i64 0, .int .i64 0, .int .i64 0]) := ⟨Blk.step blk hk⟩
      replace HX : Aside0 (Blk wA (w1.heap.size) 42 #[.float .f64 0, .int .i64 0, .int .i64 0]) := ⟨Blk.step blk hk⟩
      replace HB := Aside0.mk (below_step bel hk)
      have hsA := hk.size
      try simp at hsA
      clear hk
      go_wp2_with fail
      refine hK.out _ _ (by trivial) (fun hHeld => ?_)
      clear hK K
      try simp only [Act.put, List.setIfInBounds_toArray, List.set_cons_zero, List.set_cons_succ]
      refine Rg.tk (fuel := 10) 3 ?_
      refine wpAnyH_ready (fuel := 9) (rs := [4]) (by kernel_rfl) (by simp) ?_
      refine AllReadyH.cons rfl (fun K hK => ?_) ?_
      · go_simp
        refine (CI.out _).mono ?_
        rintro e wB ⟨rfl, hk⟩
        replace HR : Aside0 (Blk wB (w.heap.size) 68 #[.float .f64 0, .int .i64 0, .int .i64 0, .int .i64 0, .int .i64 0]) := ⟨Blk.step blk hk⟩
        replace HX : Aside0 (Blk wB (w1.heap.size) 42 #[.float .f64 0, .int .i64 0, .int .i64 0]) := ⟨Blk.step blk hk⟩
        replace HB := Aside0.mk (below_step bel hk)
        have hsB := hk.size
        try simp at hsB
        clear hk
        go_wp2_with fail
        refine hK.out _ _ (by trivial) (fun hHeld => ?_)
        clear hK K
        try simp only [Act.put, List.setIfInBounds_toArray, List.set_cons_zero, List.set_cons_succ]
        refine Rg.tk (fuel := 8) 5 ?_
        refine wpAnyH_ready (fuel := 7) (rs := [6]) (by kernel_rfl) (by simp) ?_
        refine AllReadyH.cons rfl (fun K hK => ?_) ?_
        · go_simp
          refine (CR.out _).mono ?_
          rintro e wC ⟨rfl, hk⟩
          replace HR : Aside0 (Blk wC (w.heap.size) 68 #[.float .f64 0, .int .i64 0, .int .i64 0, .int .i64 0, .int .i64 0]) := ⟨Blk.step blk hk⟩
          replace HX : Aside0 (Blk wC (w1.heap.size) 42 #[.float .f64 0, .int .i64 0, .int .i64 0]) := ⟨Blk.step blk hk⟩
          replace HB := Aside0.mk (below_step bel hk)
          have hsC := hk.size
          try simp at hsC
          clear hk
          go_wp2_with fail
          refine hK.out _ _ (by trivial) (fun hHeld => ?_)
          clear hK K
          try simp only [Act.put, List.setIfInBounds_toArray, List.set_cons_zero, List.set_cons_succ]
          refine Rg.tk (fuel := 6) 7 ?_
          refine Rg.tk (fuel := 5) 8 ?_
          refine Rg.tk (fuel := 4) 9 ?_
          refine Rg.tk (fuel := 3) 10 ?_
          refine wpAnyH_ready (fuel := 2) (rs := [12]) (by kernel_rfl) (by simp) ?_
          refine AllReadyH.cons rfl (fun K hK => ?_) ?_
          · obtain ⟨cX0, cX1, cX2, fX⟩ := HX.out.c3
            go_simp
            have HX1 := HX.out
            clear HX cX0 cX1 cX2 fX
            have HX : Aside0 (Blk (((wC.setCell ⟨w1.heap.size, 0, none⟩ (.float .f64 T)).setCell ⟨w1.heap.size, 1, none⟩ (.int .i64 S1)).setCell ⟨w1.heap.size, 2, none⟩ (.int .i64 N1)) (w1.heap.size) 42 #[.float .f64 T, .int .i64 S1, .int .i64 N1]) := ⟨((HX1.set_ 0 _).set_ 1 _).set_ 2 _⟩
            clear HX1
            refine hK.out _ _ (by trivial) (fun hHeld => ?_)
            clear hK K
            try simp only [Act.put, List.setIfInBounds_toArray, List.set_cons_zero, List.set_cons_succ]
            refine Rg.tk (fuel := 1) 13 ?_
            refine Rg.tk (fuel := 0) 14 ?_
            refine wpAnyH_done (by kernel_rfl) ?_ _
            refine NoPanic.normal ?_
            go_wp2_with fail
            refine (CN.out _).mono ?_
            rintro e w3 ⟨rfl, hk⟩
            replace HR : Aside0 (Blk w3 (w.heap.size) 68 #[.float .f64 0, .int .i64 0, .int .i64 0, .int .i64 0, .int .i64 0]) := ⟨Blk.step blk hk⟩
            replace HX : Aside0 (Blk w3 (w1.heap.size) 42 #[.float .f64 T, .int .i64 S1, .int .i64 N1]) := ⟨Blk.step blk hk⟩
            replace HB := Aside0.mk (below_step bel hk)
            have hsw3 := hk.size
            try simp at hsw3
            clear hk
            obtain ⟨cR0, cR1, cR2, cR3, cR4, fR⟩ := HR.out.c5
            obtain ⟨cX0, cX1, cX2, fX⟩ := HX.out.c3
            go_wp2_with fail
            clear cR0 cR1 cR2 cR3 cR4 fR cX0 cX1 cX2 fX
            refine (CP.out _).mono ?_
            rintro e w4 ⟨rfl, hk⟩
            replace HR : Aside0 (Blk w4 (w.heap.size) 68 #[.float .f64 0, .int .i64 0, .int .i64 0, .int .i64 0, .int .i64 0]) := ⟨Blk.step blk hk⟩
            replace HX : Aside0 (Blk w4 (w1.heap.size) 42 #[.float .f64 T, .int .i64 S1, .int .i64 N1]) := ⟨Blk.step blk hk⟩
            replace HB := Aside0.mk (below_step bel hk)
            have hsw4 := hk.size
            try simp at hsw4
            clear hk
            obtain ⟨cR0, cR1, cR2, cR3, cR4, fR⟩ := HR.out.c5
            obtain ⟨cX0, cX1, cX2, fX⟩ := HX.out.c3
            have n4 : w1.heap.size < w4.heap.size := by omega
            have m4 : ¬ w1.heap.size = w4.heap.size := by omega
            have k4 : ¬ w.heap.size = w4.heap.size := by omega
            have k5 : ¬ w4.heap.size = w.heap.size := by omega
            have k6 : w.heap.size ≤ w4.heap.size := by omega
            have k7 : w.heap.size < w4.heap.size := by omega
            go_wp2_with fail
            refine wp_region_noPanic ?_
            refine wp_region_held_drew (S := (fun w' => w'.cell? ⟨w1.heap.size, 0, none⟩ = some (.float .f64 T))) (by kernel_rfl) (by first | assumption | (go_keep; done) | (go_simp; done)) (fun hHeld => ?_)
            change wpAnyH _ _ _ _ _ 13 _ _ _
            refine Rg.tk (fuel := 12) 0 ?_
            refine Rg.tk (fuel := 11) 1 ?_
            refine Rg.tk (fuel := 10) 2 ?_
            refine Rg.tk (fuel := 9) 3 ?_
            refine Rg.tk (fuel := 8) 4 ?_
            refine Rg.tk (fuel := 7) 5 ?_
            refine Rg.tk (fuel := 6) 6 ?_
            refine Rg.tk (fuel := 5) 7 ?_
            refine Rg.tk (fuel := 4) 8 ?_
            refine Rg.tk (fuel := 3) 9 ?_
            refine Rg.tk (fuel := 2) 10 ?_
            refine wpAnyH_ready (fuel := 1) (rs := [11]) (by kernel_rfl) (by simp) ?_
            refine AllReadyH.cons rfl (fun K hK => ?_) ?_
            · go_simp
              refine hK.out _ _ (by first | assumption | (go_keep; done) | (go_simp; done)) (fun hHeld => ?_)
              clear hK K
              try simp only [Act.put, List.setIfInBounds_toArray, List.set_cons_zero, List.set_cons_succ]
              refine wpAnyH_ready (fuel := 0) (rs := [12]) (by kernel_rfl) (by simp) ?_
              refine AllReadyH.cons rfl (fun K hK => ?_) ?_
              · go_simp
                refine hK.out _ _ (by first | assumption | (go_keep; done) | (go_simp; done)) (fun hHeld => ?_)
                clear hK K
                try simp only [Act.put, List.setIfInBounds_toArray, List.set_cons_zero, List.set_cons_succ]
                refine wpAnyH_done (by kernel_rfl) ?_ _
                refine NoPanic.normal ?_
                replace HR : Aside0 (Blk (w4.alloc (.cells #[.float .f64 T, .int .i64 (Q - 1), .int .i64 N, .int .i64 d, .int .i64 P] 68)).drew (w.heap.size) 68 #[.float .f64 0, .int .i64 0, .int .i64 0, .int .i64 0, .int .i64 0]) := ⟨blk⟩
                have HE : Aside0 (Blk (w4.alloc (.cells #[.float .f64 T, .int .i64 (Q - 1), .int .i64 N, .int .i64 d, .int .i64 P] 68)).drew (w4.heap.size) 68 #[.float .f64 T, .int .i64 (Q - 1), .int .i64 N, .int .i64 d, .int .i64 P]) := ⟨(Blk.new w4 68 #[.float .f64 T, .int .i64 (Q - 1), .int .i64 N, .int .i64 d, .int .i64 P]).drew⟩
                go_wp2_with fail
                clear cR0 cR1 cR2 cR3 cR4 fR cX0 cX1 cX2 fX
                refine (CG.out _).mono ?_
                rintro e w5 ⟨rfl, hk⟩
                replace HR : Aside0 (Blk w5 (w.heap.size) 68 #[.float .f64 0, .int .i64 0, .int .i64 0, .int .i64 0, .int .i64 0]) := ⟨Blk.step blk hk⟩
                replace HE : Aside0 (Blk w5 (w4.heap.size) 68 #[.float .f64 T, .int .i64 (Q - 1), .int .i64 N, .int .i64 d, .int .i64 P]) := ⟨Blk.step blk hk⟩
                replace HB := Aside0.mk (below_step bel hk)
                have hsw5 := hk.size
                try simp at hsw5
                clear hk
                obtain ⟨cR0, cR1, cR2, cR3, cR4, fR⟩ := HR.out.c5
                obtain ⟨cE0, cE1, cE2, cE3, cE4, fE⟩ := HE.out.c5
                go_wp2_with fail
                have hr3 := Try.results79
                exact bodyPost_ret (v := .tuple #[.agg #[.float .f64 T, .int .i64 (Q - 1), .int .i64 N, .int .i64 d, .int .i64 P], .int .i64 0]) (by simp [results, Try.results79, go_sem, *]) rfl ⟨rfl, bel⟩
              exact AllReadyH.nil
            exact AllReadyH.nil
          exact AllReadyH.nil
        exact AllReadyH.nil
      exact AllReadyH.nil
    exact AllReadyH.nil
  exact AllReadyH.nil


set_option maxRecDepth 100000 in
set_option maxHeartbeats 4000000 in
theorem get77_walk (s : ByteArray) (T : Nat) (S N D P e : Int) (w : World) (hs : s.size = 26) (CC : Aside0 (Gives 97 #[.string s, .int .i64 26] (.int .i64 0)))
    (CO : Aside0 (Gives 79 #[.string (s.extract 0 17 ++ s.extract 18 s.size), .int .i64 (bt s 17)] (.tuple #[.agg #[.float .f64 T, .int .i64 S, .int .i64 N, .int .i64 D, .int .i64 P], .int .i64 e]))) :
    Calls Try.prog 77 #[.string s] w fun e' w' => e' = .returned (.tuple #[.agg #[.float .f64 T, .int .i64 S, .int .i64 N, .int .i64 D, .int .i64 P], .int .i64 e]) ∧ Below w.heap.size w w' := by
  have hu2 := Try.underlying42
  have hu3 := Try.underlying68
  have e1 : ∀ W : World, (Instr.slice 9 (.string s) none (some (.int .i64 17)) none).run Try.prog W = .ok (.string (s.extract 0 17)) W := fun W => Go.run_slice_string_h (P := Try.prog) W 9 s Try.underlying9 .i64 17 (by omega) (by omega)
  have e2 : ∀ W : World, (Instr.slice 9 (.string s) (some (.int .i64 18)) none none).run Try.prog W = .ok (.string (s.extract 18 s.size)) W := fun W => Go.run_slice_string_l (P := Try.prog) W 9 s Try.underlying9 .i64 18 (by omega) (by omega)
  have hx : (s.extract 0 17).size = 17 := by rw [size_extract' _ _ _ (by omega)]
  have hy : (s.extract 18 s.size).size = 8 := by rw [size_extract' _ _ _ (by omega)]; omega
  have s0 : ¬ 9223372036854775807 < (s.extract 0 17).size + (s.extract 18 s.size).size := by omega
  have hq := bt_range s 17
  have ei := run_bt s 17 (by decide) (by omega)
  generalize bt s 17 = Q at *
  have hq1 : IntKind.i64.wrap Q = Q := by rw [IntKind.wrap_i64]; omega
  clear hs hx hy hq
  generalize s.extract 0 17 = X at *
  generalize s.extract 18 s.size = Y at *
  have hvv := Nat.le_refl w.heap.size
  have HB := Aside0.mk (below_alloc (Below.refl w.heap.size w) (.cells #[.float .f64 0, .int .i64 0, .int .i64 0, .int .i64 0, .int .i64 0] 68))
  have HR := Aside0.mk (Blk.new w 68 #[.float .f64 0, .int .i64 0, .int .i64 0, .int .i64 0, .int .i64 0])
  go_enter Try.func77, Try.ntmps77
  go_wp2_with fail
  refine (CC.out _).mono ?_
  rintro e w1 ⟨rfl, hk⟩
  replace HR : Aside0 (Blk w1 (w.heap.size) 68 #[.float .f64 0, .int .i64 0, .int .i64 0, .int .i64 0, .int .i64 0]) := ⟨Blk.step blk hk⟩
  replace HB := Aside0.mk (below_step bel hk)
  have hsw1 := hk.size
  try simp at hsw1
  clear hk
  obtain ⟨cR0, cR1, cR2, cR3, cR4, fR⟩ := HR.out.c5
  go_wp2_with fail
  refine wp_region_noPanic ?_
  refine wp_region_held_drew (S := (fun _ => True)) (by kernel_rfl) (by trivial) (fun hHeld => ?_)
  change wpAnyH _ _ _ _ _ 13 _ _ _
  refine Rg.tk (fuel := 12) 0 ?_
  refine Rg.tk (fuel := 11) 1 ?_
  refine Rg.tk (fuel := 10) 2 ?_
  refine Rg.tk (fuel := 9) 3 ?_
  refine Rg.tk (fuel := 8) 4 ?_
  refine Rg.tk (fuel := 7) 5 ?_
  refine Rg.tk (fuel := 6) 6 ?_
  refine Rg.tk (fuel := 5) 7 ?_
  refine wpAnyH_ready (fuel := 4) (rs := [8]) (by kernel_rfl) (by simp) ?_
  refine AllReadyH.cons rfl (fun K hK => ?_) ?_
  · go_simp
    refine (CO.out _).mono ?_
    rintro e' wA ⟨rfl, hk⟩
    replace HR : Aside0 (Blk wA (w.heap.size) 68 #[.float .f64 0, .int .i64 0, .int .i64 0, .int .i64 0, .int .i64 0]) := ⟨Blk.step blk hk⟩
    replace HB := Aside0.mk (below_step bel hk)
    clear hk
    go_wp2_with fail
    refine hK.out _ _ (by trivial) (fun hHeld => ?_)
    clear hK K
    try simp only [Act.put, List.setIfInBounds_toArray, List.set_cons_zero, List.set_cons_succ]
    refine Rg.tk (fuel := 3) 9 ?_
    refine Rg.tk (fuel := 2) 10 ?_
    refine wpAnyH_ready (fuel := 1) (rs := [11]) (by kernel_rfl) (by simp) ?_
    refine AllReadyH.cons rfl (fun K hK => ?_) ?_
    · obtain ⟨c0, c1, c2, c3, c4, fR⟩ := HR.out.c5
      go_simp
      refine hK.out _ _ (by trivial) (fun hHeld => ?_)
      clear hK K
      try simp only [Act.put, List.setIfInBounds_toArray, List.set_cons_zero, List.set_cons_succ]
      refine Rg.tk (fuel := 0) 12 ?_
      refine wpAnyH_done (by kernel_rfl) ?_ _
      refine NoPanic.normal ?_
      go_wp2_with fail
      have hr3 := Try.results77
      exact bodyPost_ret (v := .tuple #[.agg #[.float .f64 T, .int .i64 S, .int .i64 N, .int .i64 D, .int .i64 P], .int .i64 e]) (by simp [results, Try.results77, go_sem, *]) rfl ⟨rfl, bel⟩
    exact AllReadyH.nil
  exact AllReadyH.nil


set_option maxRecDepth 100000 in
set_option maxHeartbeats 1000000 in
theorem same64_calls (t : Nat) (s n d p : Int) (w : World) : Calls Try.prog 64 #[.agg #[.float .f64 t, .int .i64 s, .int .i64 n, .int .i64 d, .int .i64 p], .agg #[.float .f64 t, .int .i64 s, .int .i64 n, .int .i64 d, .int .i64 p]] w fun e w' => e = .returned (.bool true) ∧ Below w.heap.size w w' := by
  have hu2 := Try.underlying42
  have hu3 := Try.underlying68
  have HB := Aside0.mk (below_alloc (below_alloc (Below.refl w.heap.size w) (.cells #[.float .f64 t, .int .i64 s, .int .i64 n, .int .i64 d, .int .i64 p] 68)) (.cells #[.float .f64 t, .int .i64 s, .int .i64 n, .int .i64 d, .int .i64 p] 68))
  have HX := Aside0.mk ((Blk.new w 68 #[.float .f64 t, .int .i64 s, .int .i64 n, .int .i64 d, .int .i64 p]).alloc (.cells #[.float .f64 t, .int .i64 s, .int .i64 n, .int .i64 d, .int .i64 p] 68))
  have HY : Aside0 (Blk ((w.alloc (.cells #[.float .f64 t, .int .i64 s, .int .i64 n, .int .i64 d, .int .i64 p] 68)).alloc (.cells #[.float .f64 t, .int .i64 s, .int .i64 n, .int .i64 d, .int .i64 p] 68)) (w.heap.size + 1) 68 #[.float .f64 t, .int .i64 s, .int .i64 n, .int .i64 d, .int .i64 p]) := ⟨by have h := Blk.new (w.alloc (.cells #[.float .f64 t, .int .i64 s, .int .i64 n, .int .i64 d, .int .i64 p] 68)) 68 #[.float .f64 t, .int .i64 s, .int .i64 n, .int .i64 d, .int .i64 p]; simpa using h⟩
  go_enter Try.func64, Try.ntmps64
  go_wp2_with fail
  refine (same71_calls _ _ _ _).mono ?_
  rintro e w1 ⟨rfl, hk⟩
  replace HX : Aside0 (Blk w1 (w.heap.size) 68 #[.float .f64 t, .int .i64 s, .int .i64 n, .int .i64 d, .int .i64 p]) := ⟨Blk.step blk hk⟩
  replace HY : Aside0 (Blk w1 (w.heap.size + 1) 68 #[.float .f64 t, .int .i64 s, .int .i64 n, .int .i64 d, .int .i64 p]) := ⟨Blk.step blk hk⟩
  replace HB := Aside0.mk (below_step bel hk)
  have hsw1 := hk.size
  try simp at hsw1
  clear hk
  obtain ⟨cX0, cX1, cX2, cX3, cX4, fX⟩ := HX.out.c5
  obtain ⟨cY0, cY1, cY2, cY3, cY4, fY⟩ := HY.out.c5
  go_wp2_with fail
  go_ret
  exact ⟨rfl, bel⟩

end Go.Proofs.Ytlbjcdfognofgaa.RecK
